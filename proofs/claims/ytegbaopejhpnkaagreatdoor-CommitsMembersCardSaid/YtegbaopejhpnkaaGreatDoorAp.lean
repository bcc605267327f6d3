/- Part of the proof that the law CommitsMembers holds. -/
import Derived.Test.YtegbaopejhpnkaaGreatDoorAa
import Derived.Test.YtegbaopejhpnkaaGreatDoorAh
import Derived.Test.YtegbaopejhpnkaaGreatDoorAl
import Derived.Test.YtegbaopejhpnkaaGreatDoorAn
import Derived.Test.YtegbaopejhpnkaaGreatDoorAo
namespace Go.Chx
open Go
variable {C:Ctx} {δ:List Deferred} {ρ:Da} {l:List A9} {I:World→Prop} {K:Act→World→Prop} {Q:Exit→Act→World→Prop} {ops:Array Oper}
def Rh (C:Ctx) (ops:Array Oper) (δ:List Deferred) (l:List A9) (i:Nat) (ρ:Da) (I:World→Prop) {γ:Type} (p:γ→Prop) (v:γ→Value) (l':γ→List A9) (J:γ→World→Prop):Prop :=
 ∀ (Q:Exit→Act→World→Prop) (K:Act→World→Prop) (R:World→Prop) (m:List A9),(∀ x,p x→KJ C K δ ((Au ops i,v x)::ρ) (l' x++m) (fun w=>(J x w∧I w)∧R w))→KJ C (Ax C ops (Bf ops i) K Q) δ ρ (l++m) (fun w=>I w∧R w)
inductive Tf (C:Ctx) (ops:Array Oper) (δ:List Deferred) (isG:Nat→Bool) (Di:Da→List A9→(World→Prop)→Prop):List Nat→Da→List A9→(World→Prop)→Prop
 | nil {ρ:Da} {l:List A9} {I:World→Prop}:Di ρ l I→Tf C ops δ isG Di [] ρ l I
 | det {i:Nat} {B:List Nat} {ρ:Da} {l:List A9} {I:World→Prop} (v:Value):Rd C ops δ l i ρ I v→Tf C ops δ isG Di B ((Au ops i,v)::ρ) l I→Tf C ops δ isG Di (i::B) ρ l I
 | gh {i:Nat} {B:List Nat} {ρ:Da} {l:List A9} {I:World→Prop} {γ:Type} (p:γ→Prop) (v:γ→Value) (l':γ→List A9) (J:γ→World→Prop):isG i=true→Rh C ops δ l i ρ I p v l' J→(∀ x,∃ m,l' x=l++m) →
   (∀ x,p x→Tf C ops δ isG Di B ((Au ops i,v x)::ρ) (l' x) (fun w=>J x w∧I w))→Tf C ops δ isG Di (i::B) ρ l I
inductive Sf (C:Ctx) (ops:Array Oper) (δ:List Deferred) (isG:Nat→Bool) (Di:Da→List A9→(World→Prop)→Prop) (D:List Nat) (a:Act):List Nat→Da→List A9→(World→Prop)→List A9→(World→Prop)→Prop
 | stop {B:List Nat} {ρ:Da} {l:List A9} {I:World→Prop}:(∀ j∈B,j∉D)→Tf C ops δ isG Di B ρ l I→Sf C ops δ isG Di D a B ρ l I l I
 | det {i:Nat} {B:List Nat} {ρ:Da} {l L:List A9} {I J:World→Prop} (v:Value):Rd C ops δ l i ρ I v→(i∈D→a.tmps[Au ops i]? = some v)→Sf C ops δ isG Di D a B ((Au ops i,v)::ρ) l I L J→Sf C ops δ isG Di D a (i::B) ρ l I L J
 | gh {i:Nat} {B:List Nat} {ρ:Da} {l L:List A9} {I J J':World→Prop} (v:Value) (m:List A9):isG i=true→i∈D→a.tmps[Au ops i]? = some v→Sf C ops δ isG Di D a B ((Au ops i,v)::ρ) (l++m) (fun w=>J' w∧I w) L J→Sf C ops δ isG Di D a (i::B) ρ l I L J
variable {isG:Nat→Bool} {Di:Da→List A9→(World→Prop)→Prop} {L:List A9}
theorem Sf.ext {D:List Nat} {a:Act} {B:List Nat} {ρ:Da} {I J:World→Prop} (h:Sf C ops δ isG Di D a B ρ l I L J):∃ m,L=l++m:=by
 induction h with
 | stop _ _=>exact ⟨[],(List.append_nil _).symm⟩
 | det _ _ _ _ ih=>exact ih
 | gh _ m _ _ _ _ ih=>obtain ⟨m',rfl⟩:=ih; exact ⟨m++m',by rw [List.append_assoc]⟩
theorem Sf.imp {D:List Nat} {a:Act} {B:List Nat} {ρ:Da} {I J:World→Prop} (h:Sf C ops δ isG Di D a B ρ l I L J):∀ w,J w→I w:=by
 induction h with
 | stop _ _=>exact fun _ h=>h
 | det _ _ _ _ ih=>exact ih
 | gh _ _ _ _ _ _ ih=>exact fun w h=>(ih w h).2
theorem Sf.mono {D D':List Nat} {a a':Act} {B:List Nat} {ρ:Da} {I J:World→Prop} (h:Sf C ops δ isG Di D a B ρ l I L J) (hD:∀ j∈B,(j∈D'↔j∈D)) (ha:∀ j∈B,j∈D→a'.tmps[Au ops j]? = a.tmps[Au ops j]?) :
  Sf C ops δ isG Di D' a' B ρ l I L J:=by
 induction h with
 | stop h1 h2=>exact .stop (fun j hj hd=>h1 j hj ((hD j hj).1 hd)) h2
 | det v h1 h2 _ ih=>exact .det v h1 (fun hd=>by rw [ha _ (.head _) ((hD _ (.head _)).1 hd)]; exact h2 ((hD _ (.head _)).1 hd)) (ih (fun j hj=>hD j (.tail _ hj)) (fun j hj=>ha j (.tail _ hj)))
 | gh v m h1 h2 h3 _ ih=>exact .gh v m h1 ((hD _ (.head _)).2 h2) (by rw [ha _ (.head _) h2]; exact h3) (ih (fun j hj=>hD j (.tail _ hj)) (fun j hj=>ha j (.tail _ hj)))
abbrev stepF (C:Ctx) (ops:Array Oper) (δ:List Deferred) (l M:List A9) (isG:Nat→Bool) (Di:Da→List A9→(World→Prop)→Prop) (D:List Nat) (a:Act) (i:Nat) (B:List Nat) (ρ:Da) (I:World→Prop) (a':Act) (w':World):Prop :=
 ∃ v,a'=a.put (some (Au ops i)) v∧∃ L' J',Sf C ops δ isG Di (i::D) a' B ρ l I L' J'∧WSat C.X C.M C.w0 (L'++M) J' w'
theorem Sf.step {M:List A9} {i:Nat} {D:List Nat} {a:Act} {w:World} (hiD:i∉D)
  (hdst:(Bf ops i).dst=some (Au ops i)) (hdN:Au ops i < C.N) (hsel:∀ cs b,(Bf ops i).op≠.select cs b) (hndf:∀ c,(Bf ops i).op≠.defer c)
  (hs:a.tmps.size=C.N) (hd:a.defers=δ):∀ {B:List Nat} {ρ:Da} {l L:List A9} {I J:World→Prop},Sf C ops δ isG Di D a B ρ l I L J→i∈B→B.Nodup →
  (∀ j∈B,Au ops j < C.N)→(∀ j∈B,j≠i→Au ops j≠Au ops i)→(∀ g∈Bd i B,isG g=true→g∈D) →
  (∀ j∈Bd i B,(Hv (Bf ops i) (Au ops j)∨∃ g b,(Bf ops i).guard=some (g,b)∧(ops[g]?).bind (·.dst)=some (Au ops j))→j∈D) →
  (∀ t v,lk ρ t=some v→t < C.N)→Reads ops i ρ a→WSat C.X C.M C.w0 (L++M) J w →
  Ax C ops (Bf ops i) (stepF C ops δ l M isG Di D a i B ρ I) Q a w:=by
 intro B ρ l L I J h
 have hput:∀ (v:Value) (d:Nat),d≠Au ops i→(a.put (some (Au ops i)) v).tmps[d]? = a.tmps[d]?:=by
  intro v d hne
  simp only [Act.put,Array.getElem?_setIfInBounds]
  rw [if_neg (fun e=>hne e.symm)]
 have hputi:∀ v,(a.put (some (Au ops i)) v).tmps[Au ops i]? = some v:=by
  intro v
  simp only [Act.put,Array.getElem?_setIfInBounds]
  rw [if_pos trivial,if_pos (by omega)]
 have hltc:∀ {ρ:Da} {j:Nat} {v:Value},(∀ t v,lk ρ t=some v→t < C.N)→Au ops j < C.N→∀ t u,lk ((Au ops j,v)::ρ) t=some u→t < C.N:=by
  intro ρ j v h hj t u hu
  simp only [lk] at hu
  cases e:Nat.beq (Au ops j) t with
  | true=>have:=Nat.eq_of_beq_eq_true e; omega
  | false=>rw [e] at hu; exact h t u hu
 have inTx:∀ {B:List Nat} {ρ:Da} {l:List A9} {I:World→Prop},Tf C ops δ isG Di B ρ l I→(∀ j∈B,j∉D)→i∈B→B.Nodup →
   (∀ j∈B,Au ops j < C.N)→(∀ j∈B,j≠i→Au ops j≠Au ops i)→(∀ g∈Bd i B,isG g=true→g∈D) →
   (∀ j∈Bd i B,(Hv (Bf ops i) (Au ops j)∨∃ g b,(Bf ops i).guard=some (g,b)∧(ops[g]?).bind (·.dst)=some (Au ops j))→j∈D) →
   (∀ t v,lk ρ t=some v→t < C.N)→Reads ops i ρ a→∀ {J:World→Prop},(∀ w,J w→I w)→WSat C.X C.M C.w0 (l++M) J w→(∀ w,I w→J w) →
   Ax C ops (Bf ops i) (stepF C ops δ l M isG Di D a i B ρ I) Q a w:=by
  intro B ρ l I ht
  induction ht with
  | nil _=>intro _ hi; cases hi
  | @det j B ρ l I v rule ht ih =>
   intro hnD hi hnod hN hne hg hrd hlt hR J hJ hw hIJ
   by_cases hji:j=i
   ·subst hji
    have rule':Rg C ops δ (l++M) j ρ I (fun _:Unit=>True) (fun _=>v) (fun _=>l++M) (fun _ _=>True):=fun Q K R k=>by
     have:=rule Q K R M
     exact this (Ae (fun w h=>⟨⟨trivial,h.1⟩,h.2⟩) (k () trivial))
    refine Bs (fun a' w' h=>?_) (Fx hdst hdN hsel hndf hs hd hlt hR rule' hw hJ)
    obtain ⟨_,_,rfl,hw'⟩:=h
    refine ⟨v,rfl,l,I,.det v rule (fun _=>hputi v) (.stop (fun k hk hkd=>?_) ht),hw'.imp fun w h=>hJ w h.2⟩
    cases hkd with
    | head=>exact (List.nodup_cons.1 hnod).1 hk
    | tail _ h=>exact hnD k (.tail _ hk) h
   ·have hib:i∈B:=by cases hi with
     | head=>exact absurd rfl hji
     | tail _ h=>exact h
    have hbef:Bd i (j::B)=j::Bd i B:=by simp [Bd,hji]
    have hjD:j∉D:=hnD j (.head _)
    have h2:=ih (fun k hk=>hnD k (.tail _ hk)) hib (List.nodup_cons.1 hnod).2 (fun k hk=>hN k (.tail _ hk)) (fun k hk=>hne k (.tail _ hk))
     (fun g hgm=>hg g (by rw [hbef]; exact .tail _ hgm)) (fun k hk=>hrd k (by rw [hbef]; exact .tail _ hk)) (hltc hlt (hN j (.head _)))
     (hR.cons (fun hr=>absurd (hrd j (by rw [hbef]; exact .head _) (.inl hr)) hjD) (fun g b h1 h2=>absurd (hrd j (by rw [hbef]; exact .head _) (.inr ⟨g,b,h1,h2⟩)) hjD)) hJ hw hIJ
    refine Bs (fun a' w' h=>?_) h2
    obtain ⟨u,rfl,L',J',hts,hw'⟩:=h
    refine ⟨u,rfl,L',J',.det v rule (fun hjd=>?_) hts,hw'⟩
    cases hjd with
    | head=>exact absurd rfl hji
    | tail _ h=>exact absurd h hjD
  | @gh j B ρ l I γ p v l' Jx hgj rule hext ht ih =>
   intro hnD hi hnod hN hne hg hrd hlt hR J hJ hw hIJ
   by_cases hji:j=i
   ·subst hji
    refine Bs (fun a' w' h=>?_) (Fx hdst hdN hsel hndf hs hd hlt hR (l':=fun x=>l' x++M) (fun Q K R k=>rule Q K R M k) hw hJ)
    obtain ⟨x,hx,rfl,hw'⟩:=h
    obtain ⟨m,hm⟩:=hext x
    rw [hm] at hw'
    have htx:=ht x hx
    rw [hm] at htx
    refine ⟨v x,rfl,_,_,.gh (J':=Jx x) (v x) m hgj (.head _) (hputi _) (.stop (fun k hk hkd=>?_) htx),hw'.imp fun w h=>⟨h.1,hJ w h.2⟩⟩
    cases hkd with
    | head=>exact (List.nodup_cons.1 hnod).1 hk
    | tail _ h=>exact hnD k (.tail _ hk) h
   ·have hbef:Bd i (j::B)=j::Bd i B:=by simp [Bd,hji]
    exact absurd (hg j (by rw [hbef]; exact .head _) hgj) (hnD j (.head _))
 induction h with
 | stop hn ht=>intro hi hnod hN hne hg hrd hlt hR hw; exact inTx ht hn hi hnod hN hne hg hrd hlt hR (fun _ h=>h) hw (fun _ h=>h)
 | @det j B ρ l L I J v rule hv hts ih =>
  intro hi hnod hN hne hg hrd hlt hR hw
  by_cases hji:j=i
  ·subst hji
   obtain ⟨m,hLm⟩:=hts.ext
   have rule':Rg C ops δ (L++M) j ρ I (fun _:Unit=>True) (fun _=>v) (fun _=>L++M) (fun _ _=>True):=fun Q K R k=>by
    have:=rule Q K R (m++M)
    rw [← List.append_assoc,← hLm] at this
    exact this (Ae (fun w h=>⟨⟨trivial,h.1⟩,h.2⟩) (k () trivial))
   refine Bs (fun a' w' h=>?_) (Fx hdst hdN hsel hndf hs hd hlt hR rule' hw (Sf.imp (.det v rule hv hts)))
   obtain ⟨_,_,rfl,hw'⟩:=h
   refine ⟨v,rfl,L,J,.det v rule (fun _=>hputi v) (hts.mono (fun k hk=>?_) (fun k hk _=>hput _ _ (hne k (.tail _ hk) ?_))),hw'.imp fun w h=>h.2⟩
   ·constructor
    ·intro h; cases h with
     | head=>exact absurd hk (List.nodup_cons.1 hnod).1
     | tail _ h=>exact h
    ·exact .tail _
   ·rintro rfl; exact (List.nodup_cons.1 hnod).1 hk
  ·have hib:i∈B:=by cases hi with
    | head=>exact absurd rfl hji
    | tail _ h=>exact h
   have hbef:Bd i (j::B)=j::Bd i B:=by simp [Bd,hji]
   have h2:=ih hib (List.nodup_cons.1 hnod).2 (fun k hk=>hN k (.tail _ hk)) (fun k hk=>hne k (.tail _ hk))
    (fun g hgm=>hg g (by rw [hbef]; exact .tail _ hgm)) (fun k hk=>hrd k (by rw [hbef]; exact .tail _ hk)) (hltc hlt (hN j (.head _)))
    (hR.cons (fun hr=>hv (hrd j (by rw [hbef]; exact .head _) (.inl hr))) (fun g b h1 h2=>hv (hrd j (by rw [hbef]; exact .head _) (.inr ⟨g,b,h1,h2⟩)))) hw
   refine Bs (fun a' w' h=>?_) h2
   obtain ⟨u,rfl,L',J',hts',hw'⟩:=h
   refine ⟨u,rfl,L',J',.det v rule (fun hjd=>?_) hts',hw'⟩
   cases hjd with
   | head=>exact absurd rfl hji
   | tail _ h=>rw [hput _ _ (hne j (.head _) hji)]; exact hv h
 | @gh j B ρ l L I J Jx v m hgj hjD hv hts ih =>
  intro hi hnod hN hne hg hrd hlt hR hw
  by_cases hji:j=i
  ·subst hji; exact absurd hjD hiD
  ·have hib:i∈B:=by cases hi with
    | head=>exact absurd rfl hji
    | tail _ h=>exact h
   have hbef:Bd i (j::B)=j::Bd i B:=by simp [Bd,hji]
   have h2:=ih hib (List.nodup_cons.1 hnod).2 (fun k hk=>hN k (.tail _ hk)) (fun k hk=>hne k (.tail _ hk))
    (fun g hgm=>hg g (by rw [hbef]; exact .tail _ hgm)) (fun k hk=>hrd k (by rw [hbef]; exact .tail _ hk)) (hltc hlt (hN j (.head _)))
    (hR.cons (fun _=>hv) (fun _ _ _ _=>hv)) hw
   refine Bs (fun a' w' h=>?_) h2
   obtain ⟨u,rfl,L',J',hts',hw'⟩:=h
   exact ⟨u,rfl,L',J',.gh v m hgj (.tail _ hjD) (by rw [hput _ _ (hne j (.head _) hji)]; exact hv) hts',hw'⟩
theorem Sf.done {D:List Nat} {a:Act}:∀ {B:List Nat} {ρ:Da} {l L:List A9} {I J:World→Prop},Sf C ops δ isG Di D a B ρ l I L J→(∀ j∈B,j∈D)→Sim C.N δ ρ a→∃ ρ',Di ρ' L J∧Sim C.N δ ρ' a:=by
 intro B ρ l L I J h
 have hcons:∀ {ρ:Da} {j:Nat} {v:Value},Sim C.N δ ρ a→a.tmps[Au ops j]? = some v→Sim C.N δ ((Au ops j,v)::ρ) a:=by
  intro ρ j v hs hv
  refine ⟨hs.size,hs.dfr,fun t u hu=>?_⟩
  simp only [lk] at hu
  cases e:Nat.beq (Au ops j) t with
  | true=>rw [e] at hu; have:=Nat.eq_of_beq_eq_true e; subst this; simp at hu; subst hu; exact hv
  | false=>rw [e] at hu; exact hs.get t u hu
 induction h with
 | @stop B ρ l I hn ht =>
  intro hall hs
  cases ht with
  | nil hf=>exact ⟨_,hf,hs⟩
  | det v _ _=>exact absurd (hall _ (.head _)) (hn _ (.head _))
  | gh p v l' J _ _ _ _=>exact absurd (hall _ (.head _)) (hn _ (.head _))
 | det v rule hv hts ih=>intro hall hs; exact ih (fun j hj=>hall j (.tail _ hj)) (hcons hs (hv (hall _ (.head _))))
 | gh v m hg hD hv hts ih=>intro hall hs; exact ih (fun j hj=>hall j (.tail _ hj)) (hcons hs hv)
def tfB (ops:Array Oper) (listed:Array Bool) (N:Nat) (B:List Nat) (isG:Nat→Bool) (f:Nat):Bool :=
 let m:=mks ops.toList []
 let all:=List.range ops.size
 listed.size == ops.size && decide (f::B).Nodup && decide (((f::B).map (Au ops)).Nodup) &&
 B.all (fun i=>decide (i < ops.size) && !listed.getD i true && (Bf ops i).dst.isSome && (match (Bf ops i).op with | .defer _=>false | .select _ _=>false | _=>true) && decide (Au ops i < N) &&
  (B7 (Bf ops i)).all (fun j=>listed.getD j false || (B.contains j && decide (j < i))) &&
  (Bd i B).all (fun j=>(m.getD i 0).testBit j || (!isG j && !H4 (Bf ops i) (Au ops j) && (match (Bf ops i).guard with | some (g,_)=>!((ops[g]?).bind (·.dst) == some (Au ops j)) | none=>true)))) &&
 (decide (f < ops.size) && !listed.getD f true && (Bf ops f).dst.isSome && (match (Bf ops f).op with | .defer _=>false | .select _ _=>false | _=>true) && decide (Au ops f < N) && (B7 (Bf ops f)).all (fun j=>listed.getD j false)) &&
 all.all (fun k=>B.contains k || k == f || listed.getD k true || ((m.getD k 0).testBit f && B.all (fun b=>(m.getD k 0).testBit b))) &&
 all.all (fun k=>!listed.getD k true || (B7 (Bf ops k)).all (fun j=>listed.getD j false))
theorem dj_free {fuel:Nat} {listed:Array Bool} (B:List Nat) (isG:Nat→Bool) (f:Nat) (e:Nat→A9) (hchk:tfB ops listed C.N B isG f=true) (hf:Nat.ble (B.length+1) fuel=true) (hfresh:(f::B).all (fun i=>(lk ρ (Au ops i)).isNone)=true)
  (rf:∀ (L:List A9) (J:World→Prop),Rg C ops δ L f [] J (fun _:Nat=>True) (fun r=>Bg r 0) (fun r=>L++[e r]) (fun _ _=>True))
  (k:Tf C ops δ isG (fun ρ' l' I'=>∀ r,KJ C (aw C ops Q (fuel-(B.length+1)) ((f::B).foldl (fun l i=>l.setIfInBounds i true) listed)) δ ((Au ops f,Bg r 0)::ρ') (l'++[e r]) I') B ρ l I) :
  KJ C (aw C ops Q fuel listed) δ ρ l I:=by
 have hf:=Nat.le_of_ble_eq_true hf
 simp only [tfB,Bool.and_eq_true,beq_iff_eq,decide_eq_true_eq,List.all_eq_true,Bool.not_eq_true',Bool.or_eq_true,List.contains_iff_mem,List.mem_range] at hchk
 obtain ⟨⟨⟨⟨⟨⟨hsz,hndF⟩,hdstF⟩,hB⟩,hF⟩,hout⟩,hdown⟩:=hchk
 obtain ⟨hfB,hnd⟩:=List.nodup_cons.1 hndF
 have hdst:(B.map (Au ops)).Nodup:=(List.nodup_cons.1 hdstF).2
 have hdfne:∀ j∈B,Au ops j≠Au ops f:=fun j hj he=>(List.nodup_cons.1 hdstF).1 (List.mem_map.2 ⟨j,hj,he⟩)
 have hfreshF:lk ρ (Au ops f)=none:=by simpa using List.all_eq_true.1 hfresh f (.head _)
 have hfresh:∀ i∈B,lk ρ (Au ops i)=none:=fun i hi=>by simpa using List.all_eq_true.1 hfresh i (.tail _ hi)
 have hdf:(Bf ops f).dst=some (Au ops f):=by
  have:=hF.1.1.1.2
  unfold Au
  cases h:(Bf ops f).dst with
  | none=>rw [h] at this; cases this
  | some d=>rfl
 have hgt:∀ (A:Array Bool) (k:Nat) (h:k < A.size),A.getD k true=A[k]:=fun A k h=>by simp [Array.getD_eq_getD_getElem?,h]
 have main:∀ (n:Nat) (D:List Nat) (fd:Option Nat) (lst:Array Bool) (a:Act) (w:World) (L:List A9) (J:World→Prop),n+(D.length+fd.toList.length)=B.length+1→D.Nodup→(∀ j∈D,j∈B)→lst.size=ops.size →
   (∀ k,k < ops.size→(lst.getD k true=true↔listed.getD k true=true∨k∈D∨(k=f∧fd.isSome=true)))→(∀ k,k < ops.size→lst.getD k true=true→∀ j∈B7 (Bf ops k),lst.getD j false=true) →
   Sim C.N δ ρ a→(∀ r,fd=some r→a.tmps[Au ops f]? = some (Bg r 0))→Sf C ops δ isG (fun ρ' l' I'=>∀ r,KJ C (aw C ops Q (fuel-(B.length+1)) ((f::B).foldl (fun l i=>l.setIfInBounds i true) listed)) δ ((Au ops f,Bg r 0)::ρ') (l'++[e r]) I') D a B ρ l I L J→WSat C.X C.M C.w0 (L++fd.toList.map e) J w →
   wpAnyIn (wf C.ro) 0 C.P .any ops Q (fuel-(D.length+fd.toList.length)) lst a w:=by
  intro n
  induction n with
  | zero =>
   intro D fd lst a w L J hn hDn hDB hls hlst _ hs hfv hts hw
   have hDl:=Ea hDn hDB
   cases fd with
   | none=>simp at hn; omega
   | some r =>
   simp only [Option.toList_some,List.length_singleton] at hn ⊢
   have hall:∀ j∈B,j∈D:=by
    intro j hj
    by_cases hd:j∈D
    ·exact hd
    ·have:=Ea (l:=j::D) (m:=B) (List.nodup_cons.2 ⟨hd,hDn⟩) (fun y hy=>by cases hy with
      | head=>exact hj
      | tail _ h=>exact hDB y h)
     simp at this; omega
   have he:lst=(f::B).foldl (fun l i=>l.setIfInBounds i true) listed:=by
    have hlt:∀ i∈f::B,i < listed.size:=fun i hi=>by
     rw [hsz]
     rcases List.mem_cons.1 hi with rfl | hi
     ·exact hF.1.1.1.1.1
     ·exact (hB i hi).1.1.1.1.1.1
    apply Array.ext
    ·rw [Fz,hls,hsz]
    ·intro k hk1 hk2
     have e1:lst.getD k true=lst[k]:=hgt _ k hk1
     have e2:((f::B).foldl (fun l i=>l.setIfInBounds i true) listed).getD k true=((f::B).foldl (fun l i=>l.setIfInBounds i true) listed)[k]:=hgt _ k hk2
     rw [← e1,← e2,Gm (f::B) listed hlt k (by rw [hsz]; omega)]
     rw [Bool.eq_iff_iff,hlst k (by omega)]
     simp only [Bool.or_eq_true,List.contains_iff_mem,List.mem_cons]
     constructor
     ·rintro (h | h | ⟨h,_⟩)
      ·exact .inl h
      ·exact .inr (.inr (hDB k h))
      ·exact .inr (.inl h)
     ·rintro (h | h | h)
      ·exact .inl h
      ·exact .inr (.inr ⟨h,rfl⟩)
      ·exact .inr (.inl (hall k h))
   have hlen:D.length=B.length:=by omega
   obtain ⟨ρ',hfin,hs'⟩:=hts.done hall hs
   rw [he,hlen]
   refine hfin r a w ⟨hs'.size,hs'.dfr,fun t u hu=>?_⟩ hw
   simp only [lk] at hu
   cases hb:Nat.beq (Au ops f) t with
   | true=>rw [hb] at hu; have:=Nat.eq_of_beq_eq_true hb; subst this; simp at hu; subst hu; exact hfv r rfl
   | false=>rw [hb] at hu; exact hs'.get t u hu
  | succ n ih =>
   intro D fd lst a w L J hn hDn hDB hls hlst hdn hs hfv hts hw
   have hex:(∃ i,i∈B∧i∉D)∨fd=none:=by
    cases hfd:fd with
    | none=>exact .inr rfl
    | some r =>
     refine .inl (Classical.byContradiction fun hne=>?_)
     have:B.length≤D.length:=Ea hnd fun i hi=>Classical.byContradiction fun hd=>hne ⟨i,hi,hd⟩
     rw [hfd] at hn
     simp at hn
     omega
   have hfl:fd=none→lst.getD f true=false:=fun h=>by
    rw [← Bool.not_eq_true]
    intro hl
    rcases (hlst f hF.1.1.1.1.1).1 hl with h1 | h1 | h1
    ·rw [hF.1.1.1.1.2] at h1; cases h1
    ·exact hfB (hDB f h1)
    ·rw [h] at h1; cases h1.2
   have hDown:Down ops (fun k=>k < ops.size∧lst.getD k true=true∨ops.size≤k∧lst.getD k false=true):=by
    intro k hk j hj
    have hjl:lst.getD j false=true:=by
     rcases hk with hk | hk
     ·exact hdn k hk.1 hk.2 j hj
     ·exact absurd hk.2 (by simp [Array.getD_eq_getD_getElem?,Array.getElem?_eq_none (show lst.size≤k by omega)])
    rcases Nat.lt_or_ge j ops.size with h | h
    ·exact .inl ⟨h,by rw [Ci (by omega) true false]; exact hjl⟩
    ·exact .inr ⟨h,hjl⟩
   have hbit:∀ k,k < ops.size→(∀ j∈B7 (Bf ops k),lst.getD j false=true)→∀ j,((mks ops.toList []).getD k 0).testBit j=true→j < ops.size→lst.getD j true=true:=by
    intro k hk hb j hj hjs
    cases hm:(mks ops.toList [])[k]? with
    | none=>simp [List.getD,hm] at hj
    | some m =>
     simp only [List.getD,hm,Option.getD_some] at hj
     have:=mks_in hDown ops.toList [] rfl (fun i m hi=>by simp at hi) k m hm (fun j hj=>by
      rcases Nat.lt_or_ge j ops.size with h | h
      ·exact .inl ⟨h,by rw [Ci (by omega) true false]; exact hb j hj⟩
      ·exact .inr ⟨h,hb j hj⟩) j hj
     rcases this with h | h
     ·exact h.2
     ·omega
   have hup:∀ j,j < ops.size→listed.getD j false=true→lst.getD j false=true:=fun j hjs h=>by
    rw [Ci (by omega) false true]
    exact (hlst j hjs).2 (.inl (by rw [Ci (by omega) true false]; exact h))
   have hlsj:∀ j,listed.getD j false=true→j < ops.size:=fun j h=>by
    rcases Nat.lt_or_ge j ops.size with h' | h'
    ·exact h'
    ·simp [Array.getD_eq_getD_getElem?,Array.getElem?_eq_none (show listed.size≤j by omega)] at h
   have hfu:fuel-(D.length+fd.toList.length)=(fuel-(D.length+fd.toList.length+1))+1:=by omega
   rw [hfu]
   refine ⟨fun h0=>?_,fun i hi=>?_⟩
   ·have hne:∃ i,i∈Region.ready .any ops lst:=by
     rcases hex with hex | hfd
     ·obtain ⟨i,h1,h2,h3⟩:=Ha hex
      have hBi:=hB i h1
      refine ⟨i,C1.2 ⟨hBi.1.1.1.1.1.1,?_,fun j hj=>?_⟩⟩
      ·rw [← Bool.not_eq_true]
       intro hl
       rcases (hlst i hBi.1.1.1.1.1.1).1 hl with h | h | h
       ·rw [hBi.1.1.1.1.1.2] at h; cases h
       ·exact h2 h
       ·exact hfB (h.1 ▸ h1)
      ·rcases hBi.1.2 j hj with h | ⟨h,h'⟩
       ·exact hup j (hlsj j h) h
       ·have hjs:j < ops.size:=(hB j h).1.1.1.1.1.1
        rw [Ci (by omega) false true]
        exact (hlst j hjs).2 (.inr (.inl (h3 j h h')))
     ·exact ⟨f,C1.2 ⟨hF.1.1.1.1.1,hfl hfd,fun j hj=>hup j (hlsj j (hF.2 j hj)) (hF.2 j hj)⟩⟩
    obtain ⟨i,hi⟩:=hne
    rw [h0] at hi
    cases hi
   ·obtain ⟨his,hil,hib⟩:=C1.1 hi
    have hiBf:i∈B∨(i=f∧fd=none):=by
     rcases hout i his with ((h | h) | h) | h
     ·exact .inl h
     ·refine .inr ⟨h,?_⟩
      cases hfd:fd with
      | none=>rfl
      | some r =>
       have:=(hlst i his).2 (.inr (.inr ⟨h,by rw [hfd]; rfl⟩))
       rw [hil] at this; cases this
     ·exact absurd ((hlst i his).2 (.inl h)) (by simp [hil])
     ·exfalso
      rcases hex with ⟨j,hj,hjd⟩ | hfd
      ·have hjs:=(hB j hj).1.1.1.1.1.1
       rcases (hlst j hjs).1 (hbit i his hib j (h.2 j hj) hjs) with h' | h' | h'
       ·rw [(hB j hj).1.1.1.1.1.2] at h'; cases h'
       ·exact hjd h'
       ·exact hfB (h'.1 ▸ hj)
      ·have:=hbit i his hib f h.1 hF.1.1.1.1.1
       rw [hfl hfd] at this; cases this
    have ho:ops[i]? = some (Bf ops i):=by simp [Bf,his]
    simp only [wpOpIn,ho]
    have hdn':∀ k,k < ops.size→(lst.setIfInBounds i true).getD k true=true→∀ j∈B7 (Bf ops k),(lst.setIfInBounds i true).getD j false=true:=fun k hk hkl j hj=>by
     rw [Ep (by omega)] at hkl ⊢
     by_cases hji:j=i
     ·rw [if_pos hji]
     ·rw [if_neg hji]
      by_cases h:k=i
      ·subst h; exact hib j hj
      ·rw [if_neg h] at hkl; exact hdn k hk hkl j hj
    rcases hiBf with hiB | ⟨hif,hfd⟩
    ·have hiD:i∉D:=fun h=>by
      have:=(hlst i his).2 (.inr (.inl h))
      rw [hil] at this; cases this
     have hBi:=hB i hiB
     have hbm:∀ j∈Bd i B,j∈B:=by
      have:∀ {B:List Nat} {j:Nat},j∈Bd i B→j∈B:=by
       intro B
       induction B with
       | nil=>intro j h; cases h
       | cons c B ihB =>
        intro j h
        simp only [Bd] at h
        split at h
        ·cases h
        ·cases h with
         | head=>exact .head _
         | tail _ h=>exact .tail _ (ihB h)
      exact fun j h=>this h
     have hdone:∀ j∈Bd i B,((mks ops.toList []).getD i 0).testBit j=true→j∈D:=by
      intro j hj hb
      have hjB:=hbm j hj
      have hjs:=(hB j hjB).1.1.1.1.1.1
      rcases (hlst j hjs).1 (hbit i his hib j hb hjs) with h | h | h
      ·rw [(hB j hjB).1.1.1.1.1.2] at h; cases h
      ·exact h
      ·exact absurd (h.1 ▸ hjB) hfB
     have hdi:(Bf ops i).dst=some (Au ops i):=by
      have:=hBi.1.1.1.1.2
      unfold Au
      cases h:(Bf ops i).dst with
      | none=>rw [h] at this; cases this
      | some d=>rfl
     have hinj:∀ j∈B,j≠i→Au ops j≠Au ops i:=by
      intro j hjB hne e
      have:∀ {B:List Nat},(B.map (Au ops)).Nodup→j∈B→i∈B→False:=by
       intro B
       induction B with
       | nil=>intro _ h; cases h
       | cons c B ihB =>
        intro hnn h1 h2
        simp only [List.map_cons,List.nodup_cons] at hnn
        cases h1 with
        | head=>cases h2 with
         | head=>exact hne rfl
         | tail _ h2=>exact hnn.1 (e ▸ List.mem_map.2 ⟨i,h2,rfl⟩)
        | tail _ h1=>cases h2 with
         | head=>exact hnn.1 (e ▸ List.mem_map.2 ⟨j,h1,rfl⟩)
         | tail _ h2=>exact ihB hnn.2 h1 h2
      exact this hdst hjB hiB
     have hst:=Sf.step (M:=fd.toList.map e) (Q:=Q) hiD hdi hBi.1.1.2 (fun cs b e=>by have:=hBi.1.1.1.2; rw [e] at this; cases this) (fun c e=>by have:=hBi.1.1.1.2; rw [e] at this; cases this) hs.size hs.dfr hts hiB hnd
      (fun j hj=>(hB j hj).1.1.2) hinj
      (fun g hg hgg=>by
       rcases hBi.2 g hg with h | h
       ·exact hdone g hg h
       ·exact absurd hgg (by simp [h.1.1]))
      (fun j hj hr=>by
       rcases hBi.2 j hj with h | h
       ·exact hdone j hj h
       ·exfalso
        rcases hr with hr | ⟨g,b,hg,hd⟩
        ·rw [H3,h.1.2] at hr; cases hr
        ·have:=h.2
         rw [hg] at this
         simp [hd] at this)
      (fun t v hv=>by
       have:=hs.get t v hv
       have:=(Array.getElem?_eq_some_iff.1 this).1
       have:=hs.size
       omega)
      ⟨fun t _ v hv=>hs.get t v hv,fun _ _ d _ _ v hv=>hs.get d v hv⟩ hw
     refine Bs ?_ hst
     rintro a' w' ⟨v,rfl,L',J',hts',hw'⟩
     have hr:=ih (i::D) fd (lst.setIfInBounds i true) _ w' L' J' (by simp only [List.length_cons]; omega) (List.nodup_cons.2 ⟨hiD,hDn⟩)
      (fun j hj=>by cases hj with
       | head=>exact hiB
       | tail _ h=>exact hDB j h) (by simpa using hls)
      (fun k hk=>by
       rw [Ep (by omega)]
       by_cases h:k=i
       ·subst h; simp
       ·rw [if_neg h,hlst k hk]; simp [h])
      hdn'
      ⟨by simp [Act.put,hs.size],by simp [Act.put,hs.dfr],fun t v' h=>by
       have hne:Au ops i≠t:=by rintro rfl; rw [hfresh i hiB] at h; cases h
       have:=hs.get t v' h
       simp only [Act.put,Array.getElem?_setIfInBounds]
       rw [if_neg hne]; exact this⟩
      (fun r hr=>by
       have:=hfv r hr
       simp only [Act.put,Array.getElem?_setIfInBounds]
       rw [if_neg (hdfne i hiB)]; exact this) hts' hw'
     rw [show fuel-(D.length+fd.toList.length+1)=fuel-((i::D).length+fd.toList.length) by simp only [List.length_cons]; omega]
     exact hr
    ·subst hif
     subst hfd
     simp only [Option.toList_none,List.map_nil,List.append_nil] at hw
     have hst:=Fx (Q:=Q) (a:=a) (w:=w) (ρ:=[]) hdf hF.1.2 (fun cs b e=>by have:=hF.1.1.2; rw [e] at this; cases this) (fun c e=>by have:=hF.1.1.2; rw [e] at this; cases this) hs.size hs.dfr
      (fun t v h=>nomatch h) ⟨fun _ _ v h=>(nomatch h),fun _ _ _ _ _ v h=>nomatch h⟩ (rf L J) hw (fun _ h=>h)
     refine Bs ?_ hst
     rintro a' w' ⟨r,_,rfl,hw'⟩
     have hr:=ih D (some r) (lst.setIfInBounds i true) (a.put (some (Au ops i)) (Bg r 0)) w' L J (by simp only [Option.toList_none,Option.toList_some,List.length_nil,List.length_singleton] at hn ⊢; omega) hDn hDB (by simpa using hls)
      (fun k hk=>by
       rw [Ep (by omega)]
       by_cases h:k=i
       ·subst h; simp
       ·rw [if_neg h,hlst k hk]; simp [h])
      hdn'
      ⟨by simp [Act.put,hs.size],by simp [Act.put,hs.dfr],fun t v' h=>by
       have hne:Au ops i≠t:=by rintro rfl; rw [hfreshF] at h; cases h
       have:=hs.get t v' h
       simp only [Act.put,Array.getElem?_setIfInBounds]
       rw [if_neg hne]; exact this⟩
      (fun r' hr'=>by
       cases hr'
       have hlt:Au ops i < a.tmps.size:=by rw [hs.size]; exact hF.1.2
       simp only [Act.put,Array.getElem?_setIfInBounds]
       rw [if_pos trivial,if_pos hlt])
      (hts.mono (fun _ _=>Iff.rfl) (fun j hj _=>by
       simp only [Act.put,Array.getElem?_setIfInBounds]
       rw [if_neg (fun e=>hdfne j hj e.symm)])) (hw'.imp fun w h=>h.2)
     exact hr
 intro a w ha hw
 have:=main (B.length+1) [] none listed a w l I (by simp) (by simp) (by simp) hsz (by simp) (fun k hk hl j hj=>by
  rcases hdown k hk with h | h
  ·rw [h] at hl; cases hl
  ·exact h j hj) ha (fun r h=>by cases h) (.stop (by simp) k) (by simpa using hw)
 simpa using this
end Go.Chx
namespace Go.Chx
open Go Go.Proofs
set_option maxHeartbeats 1000000
set_option maxRecDepth 4000
theorem Parts.none (w:World):Parts [] [] w:=⟨rfl,fun i v bs hv _=>by simp at hv⟩
theorem Parts.cons {w:World} {v:Value} {b:List UInt8} {m:Nat} {vs:List Value} {bs:List (List UInt8)} (hm:b.length=m) (h:Sl 1 m (An b) v w) (k:Parts bs vs w):Parts (b::bs) (v::vs) w:=by
 subst hm
 refine ⟨by rw [List.length_cons,List.length_cons,k.1],fun i u cs hv hb=>?_⟩
 match i with
 | 0=>simp at hv hb; subst hv hb; exact h
 | i+1=>exact k.2 i u cs (by simpa using hv) (by simpa using hb)
noncomputable def tagD (k:Dig) (n head c:List UInt8):Dig:=E2 lbTag [k.b,n,sbN (head.length:Int) 8,head,c].flatten
theorem tag_len (k:Dig) {n:List UInt8} (hn:n.length=12) (head c:List UInt8):[k.b,n,sbN (head.length:Int) 8,head,c].flatten.length=52+head.length+c.length:=by
 simp [k.h,hn,Ht]; omega
theorem ctag_spec (ky:Dig) (n:List UInt8) (hn:n.length=12) (head:List UInt8) (ha:Option Addr) (hc:Nat) (hh:head.length≤1000000) (c:List UInt8) (ca:Option Addr) (cc:Nat) (hcl:c.length≤1000000):Ay Tryz.prog 176 [dv ky,.agg (It 12 n hn).cs.toArray,.slice ha head.length hc,.slice ca c.length cc] [] (fun w=>Sl 1 head.length (An head) (.slice ha head.length hc) w∧Sl 1 c.length (An c) (.slice ca c.length cc) w∧De 1 (Av .u32 B9) w∧De 3 (Av .u32 D1) w∧True) (fun r:Nat=>⟨True,.slice (some ⟨r,0,none⟩) 16 32,[bx r [sd (tagD ky n head c)] 23],fun _=>True⟩):=by
 refine Aj Tryz.func176 Z Z fun X w0=>?_
 have htl:=tag_len ky hn head c
 refine Ab (Aa (oj (Gx Z Z (fun r4=>(Al (Am 0 _ _ Z) ?_)))))
 try dsimp only [List.eraseIdx]
 refine oj (Gx Z Z (fun r5=>(Al (Am 0 _ _ Z) ?_)))
 try dsimp only [List.eraseIdx]
 refine oj (Ak Z Z (on (qn (Ab (A5 mo (dj_free [0,1,2,3,5,6,4,7,8,9] (fun j=>Nat.beq j 4 || Nat.beq j 7 || Nat.beq j 8) 10 (fun r=>bx r z_23 23) (by kernel_rfl) Z Z (fun L J Q K R k=>C7 Z Jb (fun r=>Fp (Ae (fun w h=>⟨⟨tR,h.1⟩,h.2⟩) (k r tR)))) (.det (.slice (some ⟨r4,0,none⟩) 32 32) (fun Q K R m k=>(slp Z Z Tryz.underlying67 Bv Z Z (.inl Z) Z (B8 (by simp [Addr.add]) k))) (.det (.slice (some ⟨r5,0,none⟩) 12 12) (fun Q K R m k=>(slp Z Z Tryz.underlying173 Bv Z Z (.inl Z) Z (B8 (by simp [Addr.add]) k))) (.det _ (fun Q K R m k=>(mv Z Z k)) (.det _ (fun Q K R m k=>(Bn Z Z Tryz.underlying53 Z k)) (.det _ (fun Q K R m k=>(mv Z Z k)) (.det _ (fun Q K R m k=>(mv Z Z k)) (.gh _ _ _ _ Z (fun Q K R m k=>call Z Z (.cons Z .nil) fb_227 (eight_spec head.length (by omega))  (fun w h=>tR) (fun x hx=>Ae (fun w h=>⟨⟨h.1,h.2.1⟩,h.2.2⟩) (k x hx))) (fun _=>by exact ⟨[],by simp⟩) ?_)))))))))))))
 rintro ⟨a8,c8⟩ hc8
 try dsimp only at hc8
 try dsimp only [List.nil_append,List.cons_append]
 refine .gh (γ:=Nat) (fun _=>True) _ _ _ Z (fun Q K R m k=>(F7 Z Tryz.underlying244 Bt zok_53 (C3 Z Z (C3 Z Z (C3 Z Z (C3 Z Z (C3 Z Z .nil))))) (by repeat (first | exact List.forall_mem_nil _ | refine List.forall_mem_cons.2 ⟨rfl,?_⟩)) Z (by decide) Z (fun r17=>Al (.refl _) (Ae (fun w h=>⟨⟨h.1,h.2.1⟩,h.2.2⟩) (k r17 tR))))) (fun _=>by exact ⟨[],by simp⟩) ?_
 rintro r17 _
 try dsimp only [List.nil_append,List.cons_append]
 refine .gh _ _ _ _ Z (fun Q K R m k=>call Z Z (.cons Z .nil) fb_100 (concatB_spec (some ⟨r17,0,none⟩) 5 5 [_,_,_,_,_] [ky.b,n,sbN (head.length:Int) 8,head,c] (by omega) Z Z (by omega))  (fun w h=>⟨Ee (h.1.1.1) Z Z,.cons ky.h (dig_sl ((Cu h.1).1)) (.cons hn (by simpa [List.take_of_length_le (Nat.le_of_eq hn)] using row_win (k:=0) (L:=12) (cap:=12) (h.1.2.2.1.1) (by decide) (by decide)) (.cons (Ht _ 8) (h.1.2.1.1) (.cons Z (Dw h.1) (.cons Z (Ez h.1) (.none w))))),tR⟩) (fun x hx=>Ae (fun w h=>⟨⟨h.1,h.2.1⟩,h.2.2⟩) (k x hx))) (fun _=>by exact ⟨[],by simp⟩) ?_
 rintro ⟨ac,cc2⟩ hcc
 try dsimp only at hcc
 try dsimp only [List.nil_append,List.cons_append]
 refine .det _ (fun Q K R m k=>(Ao Z Z (.cons Z (.cons Z .nil)) fb_99 (G0 (Iq lbTag) (by decide) _ ac cc2 hcc (by omega))  (fun w h=>⟨(h.1.1.1),(Fg h.1),(Gg h.1),tR⟩) Z (fun _=>Ae (fun w h=>h.2) k))) (.nil ?_)
 intro r9
 try dsimp only [List.nil_append,List.cons_append]
 exact Ad 11 ((Cf Z Z Dc Z .head (.head Z) Z (A6 (qn (Ab (Aa (oj (slp (h:=16) Z Z Tryz.underlying23 Bv Z ⟨_,Z,by decide⟩ (.inl Z) Z (Ac (d:=20) (v:=.slice (some ⟨r9,0,none⟩) 16 32) Z (by simp [Addr.add]) (oj (Ak Z Z (on (qn (Af (As r9 Z (.tmp Z .nil) Z tR (.refl _) (fun w h=>tR) (.inl Z))))))))))))))))
noncomputable def sealB (k:Dig) (n head bs:List UInt8):List UInt8:=strm k n bs++(tagD k n head (strm k n bs)).b.take 16
theorem sealB_len (k:Dig) (n head bs:List UInt8):(sealB k n head bs).length=bs.length+16:=by
 unfold sealB
 rw [List.length_append,Fe,List.length_take,(tagD k n head (strm k n bs)).h]; rfl
theorem sl_ls {r n cap:Nat} {cur:List Value} {bs:List UInt8} {w:World} (h:w.heap[r]? = some (.cells cur.toArray 5 (0,0))) (hx:cur.take n=An bs) (hn:bs.length=n) (hc:n≤cap):Sl 1 n (An bs) (.slice (some ⟨r,0,none⟩) n cap) w:=by
 refine ⟨_,_,Z,hc,by rw [Br]; omega,Co _,.inr ⟨_,Z,fun j u hu=>?_⟩⟩
 rw [Addr.add_lit]
 refine E0 h ?_
 rw [← hx,List.getElem?_take] at hu
 split at hu
 ·simpa using hu
 ·cases hu
theorem seal_spec (k:Dig) (n:List UInt8) (hn:n.length=12) (head:List UInt8) (ha:Option Addr) (hc:Nat) (hh:head.length≤1000000) (bs:List UInt8) (a:Addr) (ca:Nat) (h0:0 < bs.length) (hb:bs.length≤65536):Ay Tryz.prog 158 [dv k,.agg (It 12 n hn).cs.toArray,.slice ha head.length hc,.slice (some a) bs.length ca] [] (fun w=>Sl 1 head.length (An head) (.slice ha head.length hc) w∧Sl 1 bs.length (An bs) (.slice (some a) bs.length ca) w∧De 1 (Av .u32 B9) w∧De 3 (Av .u32 D1) w∧De 6 (Av .u32 E7) w∧True) (fun x:(Option Addr × Nat) × A9=>⟨Own 5 1 (.slice x.1.1 (sealB k n head bs).length x.1.2) (sealB k n head bs).length (An (sealB k n head bs)) x.2,.tuple #[.slice x.1.1 (sealB k n head bs).length x.1.2,iv 0],[x.2],fun _=>True⟩):=by
 refine Aj Tryz.func158 Z Z fun X w0=>?_
 have hsl:=Fe k n bs
 refine Ab (Aa (oj (Gx Z Z (fun r4=>(Al (Am 0 _ _ Z) ?_)))))
 try dsimp only [List.eraseIdx]
 refine oj (Gx Z Z (fun r5=>(Al (Am 0 _ _ Z) ?_)))
 try dsimp only [List.eraseIdx]
 refine oj (Ak Z Z (oj (Ak Z Z (on (qn (Ab (Aa (oj (Bx Z Z Bb (fun w h=>h.2.1.1) Z (Ac (d:=11) (v:=dv k) Z (by exact av1 _) (oj (Bx Z Z ty_173 (fun w h=>h.1.1) Z (Ac (d:=12) (v:=.agg (It 12 n hn).cs.toArray) Z (by exact av1 _) (oj (mv Z Z (oj (call Z Z (.cons Z (.cons Z (.cons Z .nil))) fb_177 (stream_spec k n hn bs a ca h0 hb)  (fun w h=>⟨(Cu h),(Ec h),tR⟩) ?_)))))))))))))))))
 rintro ⟨g,cur,cap⟩ hs
 try dsimp only at hs
 try dsimp only
 have how:=hs.own
 obtain ⟨hcl,hcn,hcm,hcx⟩:=hs
 try dsimp only at hcl hcn hcm hcx how
 refine oj (mv Z Z (oj (ext Z Z Z (oj (ext Z Z Z (oj (Ak Z Z (oj (Ak Z Z (on (qn (Ab (Ab (Aa (oj (mv Z Z (oj (G2 Z Z Z (on (qn (C5 Z (fun ht=>absurd ht (by simp)) (fun hf=>(Ah ?_)))))))))))))))))))))))
 refine qn (Ab (Aa (oj (mv Z Z (oj (Bx Z Z Bb (fun w h=>h.2.2.1.1) Z (Ac (d:=21) (v:=dv k) Z (by exact av1 _) (oj (Bx Z Z ty_173 (fun w h=>h.2.1.1) Z (Ac (d:=22) (v:=.agg (It 12 n hn).cs.toArray) Z (by exact av1 _) (oj (mv Z Z (oj (mv Z Z (oj (callLO [_] Z Z (.cons Z (.cons Z (.cons Z (.cons Z .nil)))) fb_176 (.refl _) (ctag_spec k n hn head ha hc hh (strm k n bs) (some ⟨g,0,none⟩) cap (by omega)) (fun _=>Z) (fun w ho h=>⟨(Cu h),sl_ls (ho _ _ (.head _)) hcx Z hcn,(Ez h),(Ec h),tR⟩) ?_))))))))))))))))
 rintro r9 _
 try dsimp only [List.nil_append,List.cons_append]
 refine Al (Am 0 _ _ Z) ?_
 try dsimp only [List.eraseIdx]
 refine oj (Ku Z Z Z Hj (by kernel_rfl) how (i:=0) Z (fun w ho h=>(row_win (k:=0) (L:=16) (cap:=32) (h.1.1) (by decide) (by decide)).src) (by omega) (by simp only [maxLen]; omega) (fun v26 e26 ho26=>?_))
 try dsimp only [List.set]
 have ho26:Own 5 1 v26 (sealB k n head bs).length (An (sealB k n head bs)) e26:=by
  have e:(strm k n bs).length+16=(sealB k n head bs).length:=by rw [sealB_len,hsl]
  unfold sealB at e ⊢
  rw [← e,Cs]; exact ho26
 obtain ⟨va,vc,rfl,hvc⟩:=ho26.shape'
 exact oj (Ak Z Z (oj (Ak Z Z (on (qn (Af (As ((va,vc),e26) Z (.tmp Z (.tmp Z .nil)) Z ho26 (.refl _) (fun w h=>tR) (.inl Z))))))))
abbrev ndc (q:Int × Int):List Value:=[iv q.1,iv q.2]
structure Tr where
 l:List (Int × Int)
 a:Option Addr
 c:Nat
abbrev Tr.v (t:Tr):Value:=av [S1 (.slice t.a t.l.length t.c)]
abbrev Tr.F (t:Tr):World→Prop:=Sl 2 t.l.length (t.l.flatMap ndc) (.slice t.a t.l.length t.c)
def ofF (l:List (Int × Int)):Int→Option Value:=fun x=>(l.lookup x).map (Value.int .i64)
theorem lookup_snoc (l:List (Int × Int)) (q:Int × Int) (x:Int):(l++[q]).lookup x=(l.lookup x).or (if x=q.1 then some q.2 else none):=by
 rw [List.lookup_append]
 congr 1
 simp only [List.lookup]
 by_cases h:x=q.1
 ·subst h; simp
 ·have:(x == q.1)=false:=by simpa using h
  rw [this]; simp [h]
theorem ofF_new {l:List (Int × Int)} {q:Int × Int} (h:ofF l q.1=none):ofF (l++[q])=Ft (ofF l) q.1 (iv q.2):=by
 have h0:l.lookup q.1=none:=by simpa [ofF] using h
 funext x
 unfold ofF Ft
 rw [lookup_snoc]
 by_cases hx:x=q.1
 ·subst hx; rw [h0]; simp
 ·simp [hx]
theorem ofF_old {l:List (Int × Int)} {q:Int × Int} (h:(ofF l q.1).isSome=true):ofF (l++[q])=ofF l:=by
 funext x
 unfold ofF at *
 rw [lookup_snoc]
 by_cases hx:x=q.1
 ·subst hx
  cases hl:l.lookup q.1 with
  | none=>rw [hl] at h; cases h
  | some v=>simp
 ·simp [hx]
def isLf (q:Int × Int):Bool:=decide (q.1≥512) && decide (q.1≤1023)
def memA (l:List (Int × Int)):List Int:=(l.filter isLf).map (fun q=>q.1-512)
theorem memA_snoc (l:List (Int × Int)) (q:Int × Int):memA (l++[q])=memA l++(if isLf q=true then [q.1-512] else []):=by
 unfold memA
 rw [List.filter_append,List.map_append]
 congr 1
 by_cases h:isLf q=true <;> simp [List.filter,h]
theorem memA_len (l:List (Int × Int)):(memA l).length≤l.length:=by unfold memA; rw [List.length_map]; exact List.length_filter_le _ _
def Ga (l:List (Int × Int)):List Int:=Lib.compact ((memA l).mergeSort fun x y=>decide (x≤y))
theorem of_spec (t:Tr) (hl:t.l.length≤1000000):Ay Tryz.prog 96 [t.v] [] (fun w=>t.F w∧True) (fun x:Nat × Array MapEntry × Nat=>⟨MapI x.2.1 x.2.2 (ofF t.l),mpV x.1,[mpE x.1 x.2.1 x.2.2],fun _=>True⟩):=by
 refine Aj Tryz.func96 Z Z fun X w0=>(Ab (Aa (oj (C6 Z Z (fun r1=>(Al (Am 0 _ _ Z) ?_))))))
 try dsimp only [List.eraseIdx]
 refine oj (Ak Z Z (on (qn (Ab (Aa (oj (mkm Z (fun r8=>?_))))))))
 have hm_r8:=MapI.nil
 refine oj (Ak Z Z (on (qn (Ab (Ab (Aa (oj (A2 (o':=0) Z Z Jk Ju Z (oj (A4 Z Z Ju (fun w h=>Bc.at1 h.1.1 Z) (oj (Bn Z Z Tryz.underlying25 Z (oj (mv Z Z (on (qn (Ag (Aw (fun (sT:(Nat) × (Array MapEntry) × (Nat))=>(⟨sT.1≤t.l.length∧MapI sT.2.1 sT.2.2 (ofF (t.l.take sT.1)),[(3,mpV r8),(10,.slice t.a t.l.length t.c),(11,iv t.l.length),(12,iv (sT.1:Int))],[mpE r8 sT.2.1 sT.2.2],fun w=>t.F w∧True,t.l.length-sT.1⟩:Hd)) (0,_,_) (⟨Nat.zero_le _,.nil⟩) (⟨Z,Z,Z,Z,tR⟩) (.refl _) (fun w h=>⟨(h.2.1),tR⟩) ?_))))))))))))))))))
 rintro ⟨i,es_r8,cl_r8⟩ ⟨hi,hm_r8⟩
 try dsimp only
 try dsimp only at hi hm_r8
 refine Ab (Aa (oj (Dd Z Z Z (on (qn (Ab ?_))))))
 refine A8 Z (fun ht=>?_) (fun hf=>?_)
 ·obtain ⟨q,hq⟩:∃ x,t.l[i]? = some x:=⟨_,List.getElem?_eq_getElem (by omega)⟩
  refine Ah (qn (Ab (Ag (Ab (Aa (oj (Fc Z Z Z Tryz.underlying25 Jd (by omega) (fun w h=>Sl.some (h.1) (by omega)) (oj (D4 Z Z Jd Z (fun w h=>Cv (h.1) (by decide) (fun _=>Z) hq) (Ac (d:=15) (v:=av [S1 (iv q.1),S1 (iv q.2)]) Z Z (oj (C7 Z zok_234 (fun r5=>(oj (C0 Z Z Jd Z Z .head (on (qn (Ab (Aa (oj (mv Z Z ?_)))))))))))))))))))))
  refine oj (A2 (o':=0) Z Z E5 Ai Z (oj (Bh Z Z Ai (.head _) (Z) (oj (mlo Z Z Z Tryz.underlying160 Tryz.underlying3 zb_3 (fun w ho h=>⟨_,_,ho _ _ (.tail _ (.head _)),hm_r8⟩) (oj (mv Z Z (oj (ext Z Z Z (oj (ext Z Z Z (oj (Ak Z Z (oj (Ak Z Z (on (qn (Ab (Aa (oj (mv Z Z (oj (not Z Z (on (qn ?_)))))))))))))))))))))))))
  refine Ap Z (fun ht=>?_) (fun hf=>?_)
  ·exact Aa (oj (mv Z Z (oj (A2 (o':=0) Z Z E5 Ai Z (oj (Bh Z Z Ai (.head _) (Z) (oj (A2 (o':=1) Z Z fld_234_1 Ai Z (oj (Bh Z Z Ai (.head _) (Z) (oj (mup Z Z Z Tryz.underlying160 Tryz.underlying3 (fun _ _=>(.tail .head)) hm_r8 (fun es_r8 cl_r8 hm_r8=>(on (bn (qn (Aa (oj (add Z Z Z (by omega) (oj (mv Z Z (on (qn (Ar (i+1,es_r8,cl_r8) (by dsimp only; omega) (⟨by (try dsimp only); omega,by rw [A7 hq,ofF_new (by simpa using ht)]; exact hm_r8⟩) (⟨Z,Z,Z,Z,tR⟩) (.cons _ (.refl _)) (fun w h=>⟨(h.1),tR⟩)))))))))))))))))))))))))
  ·exact Ah (bn (qn (Aa (oj (add Z Z Z (by omega) (oj (mv Z Z (on (qn (Ar (i+1,es_r8,cl_r8) (by dsimp only; omega) (⟨by (try dsimp only); omega,by rw [A7 hq,ofF_old (by simpa using hf)]; exact hm_r8⟩) (⟨Z,Z,Z,Z,tR⟩) (.cons _ (.refl _)) (fun w h=>⟨(h.1),tR⟩)))))))))))
 ·have h4:i=t.l.length:=by omega
  subst h4
  rw [List.take_length] at hm_r8
  exact A1 (qe (qe (be (qn (Ab (Aa (oj (mv Z Z (oj (Ak Z Z (on (qn (Af (As (r8,es_r8,cl_r8) Z (.tmp Z .nil) Z hm_r8 (.refl _) (fun w h=>tR) (.inl Z)))))))))))))))
end Go.Chx
