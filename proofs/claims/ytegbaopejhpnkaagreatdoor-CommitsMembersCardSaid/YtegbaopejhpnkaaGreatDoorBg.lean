/- Part of the proof that the law CommitsMembers holds. -/
import Derived.TacticsIn
import Derived.Test.YtegbaopejhpnkaaGreatDoorAa
import Derived.Test.YtegbaopejhpnkaaGreatDoorAp
import Derived.Test.YtegbaopejhpnkaaGreatDoorBb
import Derived.Test.YtegbaopejhpnkaaGreatDoorBd
namespace Go.Chx
open Go
theorem nodup_le {α:Type} [DecidableEq α]:∀ {l m:List α},l.Nodup→(∀ x∈l,x∈m)→l.length≤m.length:=by
 intro l
 induction l with
 | nil=>intro m _ _; simp
 | cons a l ih =>
  intro m hn hm
  obtain ⟨h1,h2⟩:=List.nodup_cons.1 hn
  have ha:=hm a (.head _)
  have:=ih (m:=m.erase a) h2 fun x hx=>(List.mem_erase_of_ne (by intro e; subst e; exact h1 hx)).2 (hm x (.tail _ hx))
  rw [List.length_erase_of_mem ha] at this
  have:=List.length_pos_of_mem ha
  simp only [List.length_cons]; omega
theorem mbO_some {ms:List Mb} {d:Int} {m:Mb} (h:mbO ms d=some m):m∈ms∧m.d=d:=by
 unfold mbO at h
 exact ⟨List.mem_of_find?_eq_some h,by simpa using List.find?_some h⟩
theorem nodup_same {α:Type} {f:α→Int} {l:List α} (hn:(l.map f).Nodup) {x y:α} (hx:x∈l) (hy:y∈l) (e:f x=f y):x=y:=by
 obtain ⟨i,hi⟩:=List.mem_iff_getElem?.1 hx
 obtain ⟨j,hj⟩:=List.mem_iff_getElem?.1 hy
 have h3:(l.map f)[i]? = some (f x):=by rw [List.getElem?_map,hi]; rfl
 have h4:(l.map f)[j]? = some (f x):=by rw [List.getElem?_map,hj,e]; rfl
 have hil:=(List.getElem?_eq_some_iff.1 h3).1
 have:=(List.getElem?_inj hil hn).1 (h3.trans h4.symm)
 subst this
 rw [hi] at hj; cases hj; rfl
theorem mbO_iff {ms:List Mb} (hn:(ms.map (·.d)).Nodup) {d:Int} {m:Mb}:mbO ms d=some m↔m∈ms∧m.d=d:=by
 refine ⟨mbO_some,fun ⟨h1,h2⟩=>?_⟩
 cases h:mbO ms d with
 | none =>
  unfold mbO at h
  rw [List.find?_eq_none] at h
  exact absurd (by simpa using h2) (h m h1)
 | some q =>
  obtain ⟨h3,h4⟩:=mbO_some h
  rw [nodup_same hn h3 h1 (h4.trans h2.symm)]
theorem mbO_none {ms:List Mb} {d:Int}:mbO ms d=none↔∀ m∈ms,m.d≠d:=by
 unfold mbO
 rw [List.find?_eq_none]
 simp
theorem chO_some {xs:List Chg} {d:Int} {y:Chg} (h:chO xs d=some y):y∈xs∧y.d=d:=by
 unfold chO at h
 exact ⟨List.mem_of_find?_eq_some h,by simpa using List.find?_some h⟩
theorem chO_none {xs:List Chg} {d:Int}:chO xs d=none↔∀ y∈xs,y.d≠d:=by
 unfold chO
 rw [List.find?_eq_none]
 simp
theorem mbO_has {ms:List Mb} {d:Int}:(mbO ms d).isSome=Gu ms d:=by
 unfold mbO Gu
 rw [List.isSome_find?]
structure Acc (g:Gp) (c:Cm):Prop where
 v:Kt g
 k:CkP c
 fo:c.folder=g.folder
 ep:c.epoch=g.epoch+1
 pa:c.parent=g.last
 f:FmP c.ch
 p:PsP g c.author c.ch
 nd:ndE g c.author c.ch=0
theorem nx_acc {g:Gp} {c:Cm} (h:nxE g c=0):Acc g c:=by
 have hv:Kt g:=by
  by_cases hv:Kt g
  ·exact hv
  ·rw [nx1 hv] at h; cases h
 have hk:CkP c:=by
  by_cases hk:CkP c
  ·exact hk
  ·rw [nx2 hv hk] at h; cases h
 have h3:c.folder=g.folder∧c.epoch=g.epoch+1∧c.parent=g.last:=by
  by_cases h3:c.folder=g.folder∧c.epoch=g.epoch+1∧c.parent=g.last
  ·exact h3
  ·rw [nx3 hv hk h3] at h; cases h
 have h4:ndE g c.author c.ch=0:=by
  by_cases h4:ndE g c.author c.ch=0
  ·exact h4
  ·rw [nx4 hv hk h3 h4] at h; exact absurd h h4
 obtain ⟨_,hf,hp⟩:=ndE_ok h4
 exact ⟨hv,hk,h3.1,h3.2.1,h3.2.2,hf,G9.1 hp,h4⟩
section
variable {g x:Gp} {c:Cm}
theorem chM_iff {c:Cm} {m:Mb}:chM c m=true↔∃ y∈c.ch,y.d=m.d:=by
 unfold chM; rw [List.any_eq_true]; simp
theorem nm_mem {m:Mb}:m∈nmL g c↔(m∈g.ms∧∀ y∈c.ch,y.d≠m.d)∨∃ y∈c.ch,y.k≠2∧m=nwM c y:=by
 unfold nmL
 rw [List.mem_append,List.mem_filter,List.mem_map]
 constructor
 ·rintro (⟨h1,h2⟩ | ⟨y,hy,e⟩)
  ·refine .inl ⟨h1,fun y hy e=>?_⟩
   have:chM c m=true:=chM_iff.2 ⟨y,hy,e⟩
   rw [this] at h2; cases h2
  ·obtain ⟨h1,h2⟩:=List.mem_filter.1 hy
   exact .inr ⟨y,h1,by simpa using h2,e.symm⟩
 ·rintro (⟨h1,h2⟩ | ⟨y,hy,hk,e⟩)
  ·refine .inl ⟨h1,?_⟩
   cases h3:chM c m with
   | false=>rfl
   | true=>obtain ⟨y,hy,e⟩:=chM_iff.1 h3; exact absurd e (h2 y hy)
  ·exact .inr ⟨y,List.mem_filter.2 ⟨hy,by simpa using hk⟩,e.symm⟩
theorem ms_nodup (h:Kt g):(g.ms.map (·.d)).Nodup:=by
 have:=h.ms
 rw [List.nodup_iff_pairwise_ne,List.pairwise_map]
 exact this.imp fun h=>by omega
theorem nm_nodup (a:Acc g c):((nmL g c).map (·.d)).Nodup:=by
 unfold nmL
 rw [List.map_append,List.nodup_append]
 refine ⟨(List.filter_sublist.map _).nodup (ms_nodup a.v),?_,?_⟩
 ·rw [List.map_map]
  have e:((fun m:Mb=>m.d) ∘ nwM c)=fun y:Chg=>y.d:=rfl
  rw [e]
  exact (List.filter_sublist.map _).nodup a.f.2.1
 ·intro d1 h1 d2 h2 e
  subst e
  obtain ⟨m,hm,e1⟩:=List.mem_map.1 h1
  obtain ⟨m2,hm2,e2⟩:=List.mem_map.1 h2
  obtain ⟨y,hy,e3⟩:=List.mem_map.1 hm2
  have h3:=(List.mem_filter.1 hm).2
  have:chM c m=true:=chM_iff.2 ⟨y,(List.mem_filter.1 hy).1,by rw [e1,← e2,← e3]; rfl⟩
  rw [this] at h3; cases h3
theorem x_nodup (a:Acc g c) (r:NxR g c x):(x.ms.map (·.d)).Nodup:=(r.pm.map _).nodup_iff.2 (nm_nodup a)
theorem mem_none (a:Acc g c) (r:NxR g c x) {d:Int} (hc:chO c.ch d=none):mbO x.ms d=mbO g.ms d:=by
 have hn:=chO_none.1 hc
 cases h:mbO g.ms d with
 | none =>
  rw [mbO_none] at h ⊢
  intro m hm e
  rcases nm_mem.1 (r.pm.mem_iff.1 hm) with ⟨h1,_⟩ | ⟨y,hy,_,e2⟩
  ·exact h m h1 e
  ·subst e2; exact hn y hy e
 | some m =>
  obtain ⟨h1,h2⟩:=mbO_some h
  exact (mbO_iff (x_nodup a r)).2 ⟨r.pm.mem_iff.2 (nm_mem.2 (.inl ⟨h1,fun y hy e=>hn y hy (e.trans h2)⟩)),h2⟩
theorem mem_rem (a:Acc g c) (r:NxR g c x) {d:Int} {y:Chg} (hc:chO c.ch d=some y) (hk:y.k=2):(mbO g.ms d).isSome=true∧mbO x.ms d=none:=by
 obtain ⟨h1,h2⟩:=chO_some hc
 constructor
 ·rw [mbO_has,← h2,a.p.kin y h1,hk]; rfl
 ·rw [mbO_none]
  intro m hm e
  rcases nm_mem.1 (r.pm.mem_iff.1 hm) with ⟨_,h4⟩ | ⟨z,hz,h5,e2⟩
  ·exact h4 y h1 (h2.trans e.symm)
  ·subst e2
   have:z=y:=nodup_same a.f.2.1 hz h1 (show z.d=y.d from e.trans h2.symm)
   subst this; exact h5 hk
theorem mem_new (a:Acc g c) (r:NxR g c x) {d:Int} {y:Chg} (hc:chO c.ch d=some y) (hk:y.k≠2):(mbO g.ms d).isSome = !decide (y.k=1)∧mbO x.ms d=some ⟨d,c.epoch,y.v⟩:=by
 obtain ⟨h1,h2⟩:=chO_some hc
 constructor
 ·rw [mbO_has,← h2]; exact a.p.kin y h1
 ·refine (mbO_iff (x_nodup a r)).2 ⟨r.pm.mem_iff.2 (nm_mem.2 (.inr ⟨y,h1,hk,?_⟩)),Z⟩
  show _=Mb.mk y.d c.epoch y.v
  rw [h2]
theorem x_dev (a:Acc g c) (r:NxR g c x) {m:Mb} (hm:m∈x.ms):0≤m.d∧m.d < 512:=by
 rcases nm_mem.1 (r.pm.mem_iff.1 hm) with ⟨h1,_⟩ | ⟨y,hy,_,e⟩
 ·have:=a.v.mem.1 (mHas_iff.2 (List.mem_map_of_mem (f:=(·.d)) h1))
  exact ⟨this.1,this.2.1⟩
 ·subst e; exact Bu.1 (a.f.1 y hy).2
theorem mem_cnt (a:Acc g c) (r:NxR g c x):((List.range 512).countP fun d:Nat=>(mbO x.ms (d:Int)).isSome)=x.ms.length:=by
 rw [List.countP_eq_length_filter]
 have h1:(((List.range 512).filter fun d:Nat=>(mbO x.ms ((d:Nat):Int)).isSome).map fun d:Nat=>((d:Nat):Int)).length≤(x.ms.map (·.d)).length:=by
  refine nodup_le ?_ fun d hd=>?_
  ·rw [List.nodup_iff_pairwise_ne,List.pairwise_map]
   have:((List.range 512).filter fun d:Nat=>(mbO x.ms ((d:Nat):Int)).isSome).Pairwise (· < ·):=List.pairwise_lt_range.filter _
   exact this.imp fun h=>by omega
  ·obtain ⟨n,hn,rfl⟩:=List.mem_map.1 hd
   have h2:=(List.mem_filter.1 hn).2
   obtain ⟨m,hm⟩:=Option.isSome_iff_exists.1 h2
   obtain ⟨h3,h4⟩:=mbO_some hm
   exact List.mem_map.2 ⟨m,h3,h4⟩
 have h2:(x.ms.map (·.d)).length≤(((List.range 512).filter fun d:Nat=>(mbO x.ms ((d:Nat):Int)).isSome).map fun d:Nat=>((d:Nat):Int)).length:=by
  refine nodup_le (x_nodup a r) fun d hd=>?_
  obtain ⟨m,hm,rfl⟩:=List.mem_map.1 hd
  have h3:=x_dev a r hm
  refine List.mem_map.2 ⟨m.d.toNat,List.mem_filter.2 ⟨List.mem_range.2 (by omega),?_⟩,by omega⟩
  have e:((m.d.toNat:Nat):Int)=m.d:=by omega
  rw [e,(mbO_iff (x_nodup a r)).2 ⟨hm,rfl⟩]; rfl
 simp only [List.length_map] at h1 h2
 omega
theorem nx_other (a:Acc g c) {z:Cm} (h:z.folder≠g.folder∨z.epoch≠g.epoch+1∨z.parent≠g.last):nxE g z=220:=by
 by_cases hk:CkP z
 ·refine nx3 a.v hk fun k=>?_
  rcases h with h | h | h
  ·exact h k.1
  ·exact h k.2.1
  ·exact h k.2.2
 ·exact nx2 a.v hk
end
end Go.Chx
namespace Go.Chx
open Go
def C9 (d:Int):Chg:=⟨1,d,Iz (1000+d),Iz (100+d),0⟩
def gN (f:Int):Gp:=⟨f,0,Dig.zero,[],none,0,⟨[],none,0⟩⟩
theorem memL_nil:Ga []=[]:=by
 have:∀ d,d∉Ga []:=fun d h=>by obtain ⟨_,_,p,hp⟩:=memL_iff.1 h; cases hp
 exact List.eq_nil_iff_forall_not_mem.2 this
theorem TkOk_nil:Fu []:=fun i hi=>absurd hi (by simp)
theorem gN_ok {f:Int} (h0:0≤f) (h1:f < 16):Kt (gN f):=by
 refine ⟨h0,h1,Int.le_refl 0,by show (0:Int)≤1099511627776; omega,TkOk_nil,fun _=>⟨Z,Z⟩,?_,Z⟩
 show eqF _ [] (Ga [])=true
 rw [memL_nil]; rfl
theorem addC_el {d:Int} (h0:0≤d) (h1:d < 512):el (C9 d).p=true∧el (C9 d).v=true :=
 ⟨baV_el (inQ_iff.2 ⟨by omega,by omega⟩),baV_el (inQ_iff.2 ⟨by omega,by omega⟩)⟩
theorem addC_ok {d:Int} (h0:0≤d) (h1:d < 512):okB (C9 d)=true∧Eo (C9 d).d=true:=by
 obtain ⟨h2,h3⟩:=addC_el h0 h1
 refine ⟨?_,Bu.2 ⟨h0,h1⟩⟩
 unfold okB kyB
 rw [h2,h3,if_pos (show (C9 d).k=1 from rfl)]; rfl
theorem fm_1 {d:Int} (h0:0≤d) (h1:d < 512):FmP [C9 d] :=
 ⟨fun x hx=>by rw [List.mem_singleton.1 hx]; exact addC_ok h0 h1,by simp,by simp⟩
theorem fm_2:FmP [C9 4,C9 7] :=
 ⟨fun x hx=>by
  rcases List.mem_cons.1 hx with rfl | hx
  ·exact addC_ok (by omega) (by omega)
  ·rw [List.mem_singleton.1 hx]; exact addC_ok (by omega) (by omega),by simp [C9],by simp⟩
theorem ps_none {f a:Int} {x:Chg} {t:List Chg} (h:x.d=a) (hk:∀ y∈x::t,y.k=1):psB (gN f) a (x::t)=true :=
 G9.2 ⟨rfl,fun _=>⟨x,t,rfl,h⟩,fun y hy=>by rw [hk y hy]; rfl,fun h=>by cases h⟩
theorem mk_3:MkOk (gN 3) 4 104 [C9 4,C9 7] :=
 ⟨by decide,gN_ok (by omega) (by omega),fm_2,ps_none rfl (fun y hy=>by
  rcases List.mem_cons.1 hy with rfl | hy
  ·rfl
  ·rw [List.mem_singleton.1 hy]; rfl),by decide,rfl⟩
theorem nd_bad {g:Gp} {a:Int} {xs:List Chg} (h:Kt g) (h2 : ¬ psB g a xs=true):ndE g a xs=221∧Hw g a xs=[]:=nd_2 h fun k=>h2 k.2
theorem ps_other : ¬ psB (gN 0) 3 [C9 4]=true:=fun h=>by
 obtain ⟨x,t,e,hx⟩:=(G9.1 h).fst rfl
 have:x=C9 4:=by injection e with e1; exact e1.symm
 subst this
 exact absurd hx (by decide)
theorem ps_nil : ¬ psB (gN 0) 0 []=true:=fun h=>by
 obtain ⟨x,t,e,hx⟩:=(G9.1 h).fst rfl
 cases e
theorem st_1 {d p:Int} (hd:0≤d∧d < 512):seL [] d p=[(512+d,p)]:=by
 unfold seL
 rw [if_pos ⟨TkOk_nil,Bu.2 hd,fun h=>by cases h⟩]
 refine (srtL_eq ⟨List.pairwise_singleton _ _,?_⟩).symm
 funext x
 unfold stF Ft chF delK ofF
 by_cases h:x=512+d
 ·subst h; simp
 ·rw [if_neg h,List.lookup_cons]
  have:(x == 512+d)=false:=by simpa using h
  rw [this]
  simp
theorem tk_1 {d p:Int} (hd:0≤d∧d < 512) (hp:el p=true):Fu [(512+d,p)]:=by
 have h:=se_tree (l:=[]) (d:=d) (p:=p) ⟨TkOk_nil,Bu.2 hd,fun h=>by cases h⟩ hp
 rw [st_1 hd] at h
 exact h.1
theorem st_2 {p q:Int} (hp:el p=true):seL [(516,p)] 7 q=[(516,p),(519,q)]:=by
 have ht:Fu [(516,p)]:=tk_1 (d:=4) ⟨by omega,by omega⟩ hp
 unfold seL
 rw [if_pos ⟨ht,Bu.2 ⟨by omega,by omega⟩,fun h=>by cases h⟩]
 refine (srtL_eq ⟨by simp,?_⟩).symm
 funext x
 unfold stF Ft chF delK ofF
 by_cases h:x=512+7
 ·subst h; simp [List.lookup_cons]
 ·rw [if_neg h]
  have e:(x == 519)=false:=by simp; omega
  by_cases h2:x=516
  ·subst h2
   rw [if_neg fun hx=>by have:=(upK_mem (d:=7) ⟨by omega,by omega⟩ hx).2.2 (by omega); omega]
   simp
  ·have e2:(x == 516)=false:=by simpa using h2
   simp [List.lookup_cons,e,e2]
theorem rn_1:Hh [] [C9 4]=[(516,(C9 4).p)]:=by
 show rnS [] (C9 4)=_
 unfold rnS
 rw [if_neg (by decide)]
 exact st_1 (d:=4) ⟨by omega,by omega⟩
theorem rn_2:Hh [] [C9 4,C9 7]=[(516,(C9 4).p),(519,(C9 7).p)]:=by
 have:Hh [] [C9 4,C9 7]=rnS (Hh [] [C9 4]) (C9 7):=rfl
 rw [this,rn_1]
 unfold rnS
 rw [if_neg (by decide)]
 exact st_2 (addC_el (d:=4) (by omega) (by omega)).1
theorem sib_4:Dz 4 Ff=[517,259,128,65,33,17,9,5,3]:=by
 unfold Dz
 rw [if_pos (by decide)]
 have:ups (512+(4:Int).toNat)=[516,258,129,64,32,16,8,4,2]:=by
  show ups 516=_
  repeat rw [ups_gt (by decide)]
  rw [ups_le (by decide)]
 rw [this]
 decide
theorem rv_at {l:List (Int × Int)} (ht:Fu l) {n:Int} (h:1≤n∧n < 1024):rvL l n=rsL (ofF l) 11 n:=by unfold rvL; rw [if_pos ⟨ht,h⟩]
theorem rs_1 (p:Int):[517,259,128,65,33,17,9,5,3].map (rsL (ofF [(516,p)]) 11)=[[],[],[],[],[],[],[],[],[]]:=by kernel_rfl
theorem rs_2 (p q:Int):[517,259,128,65,33,17,9,5,3].map (rsL (ofF [(516,p),(519,q)]) 11)=[[],[519],[],[],[],[],[],[],[]]:=by kernel_rfl
theorem nd_map {l:List (Int × Int)} (ht:Fu l) {ns:List (List Int)} (h:[517,259,128,65,33,17,9,5,3].map (rsL (ofF l) 11)=ns):ndL l 4=ns.zipIdx.flatMap fun q=>q.1.map fun n=>((q.2:Int)+1,n):=by
 unfold ndL
 rw [sib_4,← h]
 simp only [List.map_cons,List.map_nil,List.zipIdx_cons,List.zipIdx_nil,List.flatMap_cons,List.flatMap_nil,ndB]
 simp only [rv_at ht (show (1:Int)≤517∧(517:Int) < 1024 by decide),rv_at ht (show (1:Int)≤259∧(259:Int) < 1024 by decide),rv_at ht (show (1:Int)≤128∧(128:Int) < 1024 by decide),rv_at ht (show (1:Int)≤65∧(65:Int) < 1024 by decide),rv_at ht (show (1:Int)≤33∧(33:Int) < 1024 by decide),rv_at ht (show (1:Int)≤17∧(17:Int) < 1024 by decide),rv_at ht (show (1:Int)≤9∧(9:Int) < 1024 by decide),rv_at ht (show (1:Int)≤5∧(5:Int) < 1024 by decide),rv_at ht (show (1:Int)≤3∧(3:Int) < 1024 by decide)]
theorem nd_sane1:ndE (gN 3) 4 [C9 4]=0∧Hw (gN 3) 4 [C9 4]=[]:=by
 have hp:psB (gN 3) 4 [C9 4]=true:=ps_none rfl fun y hy=>by rw [List.mem_singleton.1 hy]; rfl
 have h:=nd_3 (gN_ok (f:=3) (by omega) (by omega)) (fm_1 (d:=4) (by omega) (by omega)) hp
 refine ⟨h.1,h.2.trans ?_⟩
 show (ndL (Hh [] [C9 4]) 4).map nbx=[]
 have ht:Fu [(516,(C9 4).p)]:=tk_1 (d:=4) ⟨by omega,by omega⟩ (addC_el (d:=4) (by omega) (by omega)).1
 rw [rn_1,nd_map ht (rs_1 _)]
 rfl
theorem nd_sane2:Hw (gN 3) 4 [C9 4,C9 7]=[⟨519,2,0,[],none,0⟩]:=by
 rw [nd_at mk_3]
 show (ndL (Hh [] [C9 4,C9 7]) 4).map nbx=_
 have ht:Fu [(516,(C9 4).p),(519,(C9 7).p)]:=by
  have:=(new_tree mk_3.v mk_3.f (G9.1 mk_3.p)).1
  rw [show Hh (gN 3).tr.l [C9 4,C9 7]=_ from rn_2] at this
  exact this
 rw [rn_2,nd_map ht (rs_2 _ _)]
 rfl
theorem wc_sane:wcS 4 [C9 4,C9 7]=[C9 7]:=by
 unfold wcS wcF
 have:[C9 4,C9 7].filter (fun x=>!wcB 4 x)=[C9 7]:=by
  have h1:wcB 4 (C9 4)=true:=by unfold wcB C9; simp
  have h2:wcB 4 (C9 7)=false:=by unfold wcB C9; simp
  simp [List.filter_cons,h1,h2]
 rw [this]; simp
theorem two_sorted {xs:List Mb} {a b:Mb} (hp:xs.Perm [a,b]) (hs:xs.Pairwise fun x y=>x.d≤y.d) (h:a.d < b.d):xs=[a,b]:=by
 have hl:=hp.length_eq
 match xs,hl with
 | [x,y],_ =>
  have h1:x=a∨x=b:=by have:=hp.mem_iff.1 (List.mem_cons_self (a:=x) (l:=[y])); simpa using this
  have hxy:x.d≤y.d:=by simpa using hs
  rcases h1 with rfl | rfl
  ·have:=(List.perm_cons x).1 hp
   rw [List.singleton_perm_singleton.1 this]
  ·have h2:[y].Perm [a]:=(List.perm_cons x).1 (hp.trans (.swap _ _ _))
   have:=List.singleton_perm_singleton.1 h2
   subst this
   omega
theorem ms_sane {c:Cm} {x:Gp} (r:NxR (gN 3) c x) (hc:c.ch=[C9 4,C9 7]):x.ms=[⟨4,c.epoch,(C9 4).v⟩,⟨7,c.epoch,(C9 7).v⟩]:=by
 refine two_sorted ?_ r.so (by show (4:Int) < 7; omega)
 have e:nmL (gN 3) c=[⟨4,c.epoch,(C9 4).v⟩,⟨7,c.epoch,(C9 7).v⟩]:=by
  unfold nmL
  rw [hc]
  rfl
 rw [← e]; exact r.pm
end Go.Chx
namespace Go.Chx
open Go
variable {C:Ctx} {δ:List Deferred} {ρ:Da} {l:List A9} {I:World→Prop} {K:Act→World→Prop} {Q:Exit→Act→World→Prop} {ops:Array Oper}
variable {isG:Nat→Bool} {L:List A9}
def thB (ops:Array Oper) (listed:Array Bool) (N:Nat) (B:List Nat) (isG:Nat→Bool) (Fs:List Nat):Bool :=
 let m:=mks ops.toList []
 let all:=List.range ops.size
 listed.size == ops.size && decide (Fs++B).Nodup && decide (((Fs++B).map (Au ops)).Nodup) &&
 B.all (fun i=>decide (i < ops.size) && !listed.getD i true && (Bf ops i).dst.isSome && (match (Bf ops i).op with | .defer _=>false | .select _ _=>false | _=>true) && decide (Au ops i < N) &&
  (B7 (Bf ops i)).all (fun j=>listed.getD j false || (B.contains j && decide (j < i))) &&
  (Bd i B).all (fun j=>(m.getD i 0).testBit j || (!isG j && !H4 (Bf ops i) (Au ops j) && (match (Bf ops i).guard with | some (g,_)=>!((ops[g]?).bind (·.dst) == some (Au ops j)) | none=>true)))) &&
 Fs.all (fun f=>decide (f < ops.size) && !listed.getD f true && (Bf ops f).dst.isSome && (match (Bf ops f).op with | .defer _=>false | .select _ _=>false | _=>true) && decide (Au ops f < N) && (B7 (Bf ops f)).all (fun j=>listed.getD j false)) &&
 all.all (fun k=>B.contains k || Fs.contains k || listed.getD k true || (Fs.all (fun b=>(m.getD k 0).testBit b) && B.all (fun b=>(m.getD k 0).testBit b))) &&
 all.all (fun k=>!listed.getD k true || (B7 (Bf ops k)).all (fun j=>listed.getD j false))
theorem dj_frees {fuel:Nat} {listed:Array Bool} (B:List Nat) (isG:Nat→Bool) (Fs:List Nat) (e:Nat→Nat→A9) (hchk:thB ops listed C.N B isG Fs=true) (hf:Nat.ble (B.length+Fs.length) fuel=true) (hfresh:(Fs++B).all (fun i=>(lk ρ (Au ops i)).isNone)=true)
  (rf:∀ f∈Fs,∀ (L:List A9) (J:World→Prop),Rg C ops δ L f [] J (fun _:Nat=>True) (fun r=>Bg r 0) (fun r=>L++[e f r]) (fun _ _=>True))
  (k:Tf C ops δ isG (fun ρ' l' I'=>∀ r:Nat→Nat,KJ C (aw C ops Q (fuel-(B.length+Fs.length)) ((Fs++B).foldl (fun l i=>l.setIfInBounds i true) listed)) δ (Fs.map (fun f=>(Au ops f,Bg (r f) 0))++ρ') (l'++Fs.map (fun f=>e f (r f))) I') B ρ l I) :
  KJ C (aw C ops Q fuel listed) δ ρ l I:=by
 have hf:=Nat.le_of_ble_eq_true hf
 simp only [thB,Bool.and_eq_true,beq_iff_eq,decide_eq_true_eq,List.all_eq_true,Bool.not_eq_true',Bool.or_eq_true,List.contains_iff_mem,List.mem_range] at hchk
 obtain ⟨⟨⟨⟨⟨⟨hsz,hndF⟩,hdstF⟩,hB⟩,hF⟩,hout⟩,hdown⟩:=hchk
 obtain ⟨hndFs,hnd,hdisj⟩:=List.nodup_append.1 hndF
 have hfB:∀ f∈Fs,f∉B:=fun f hf hb=>hdisj f hf f hb rfl
 rw [List.map_append] at hdstF
 have hdst:(B.map (Au ops)).Nodup:=(List.nodup_append.1 hdstF).2.1
 have hdfne:∀ f∈Fs,∀ j∈B,Au ops j≠Au ops f:=fun f hf j hj he=>(List.nodup_append.1 hdstF).2.2 _ (List.mem_map.2 ⟨f,hf,rfl⟩) _ (List.mem_map.2 ⟨j,hj,rfl⟩) he.symm
 have hdff:∀ f∈Fs,∀ g∈Fs,f≠g→Au ops f≠Au ops g:=by
  have:∀ {Fs:List Nat},(Fs.map (Au ops)).Nodup→∀ f∈Fs,∀ g∈Fs,f≠g→Au ops f≠Au ops g:=by
   intro Fs
   induction Fs with
   | nil=>intro _ f hf; cases hf
   | cons c Fs ih =>
    intro hn f hf g hg hne he
    obtain ⟨h1,h2⟩:=List.nodup_cons.1 hn
    rcases List.mem_cons.1 hf with hf' | hf'
    ·rcases List.mem_cons.1 hg with hg' | hg'
     ·exact hne (hf'.trans hg'.symm)
     ·exact h1 (List.mem_map.2 ⟨g,hg',by rw [← hf',he]⟩)
    ·rcases List.mem_cons.1 hg with hg' | hg'
     ·exact h1 (List.mem_map.2 ⟨f,hf',by rw [← hg',he]⟩)
     ·exact ih h2 f hf' g hg' hne he
  exact this (List.nodup_append.1 hdstF).1
 have hfreshF:∀ f∈Fs,lk ρ (Au ops f)=none:=fun f hf=>by simpa using List.all_eq_true.1 hfresh f (List.mem_append_left _ hf)
 have hfresh:∀ i∈B,lk ρ (Au ops i)=none:=fun i hi=>by simpa using List.all_eq_true.1 hfresh i (List.mem_append_right _ hi)
 have hdf:∀ f∈Fs,(Bf ops f).dst=some (Au ops f):=fun f hf=>by
  have:=(hF f hf).1.1.1.2
  unfold Au
  cases h:(Bf ops f).dst with
  | none=>rw [h] at this; cases this
  | some d=>rfl
 have hgt:∀ (A:Array Bool) (k:Nat) (h:k < A.size),A.getD k true=A[k]:=fun A k h=>by simp [Array.getD_eq_getD_getElem?,h]
 let cn:(Nat→Option Nat)→Nat:=fun A=>(Fs.filter fun f=>(A f).isSome).length
 let es:(Nat→Option Nat)→List A9:=fun A=>Fs.filterMap fun f=>(A f).map (e f)
 have cn_le:∀ A,cn A≤Fs.length:=fun A=>List.length_filter_le _ _
 have cn_all:∀ A,cn A=Fs.length→∀ f∈Fs,(A f).isSome=true:=fun A h=>by
  have:=List.length_filter_eq_length_iff.1 h
  exact this
 have hset:∀ (A:Nat→Option Nat) (f r:Nat),f∈Fs→A f=none→cn (fun x=>if x=f then some r else A x)=cn A+1∧(es (fun x=>if x=f then some r else A x)).Perm (es A++[e f r]):=by
  have:∀ (Fs:List Nat),Fs.Nodup→∀ (A:Nat→Option Nat) (f r:Nat),(f∉Fs→(Fs.filter fun g=>(if g=f then some r else A g).isSome).length=(Fs.filter fun g=>(A g).isSome).length∧(Fs.filterMap fun g=>(if g=f then some r else A g).map (e g))=Fs.filterMap fun g=>(A g).map (e g))∧(f∈Fs→A f=none→(Fs.filter fun g=>(if g=f then some r else A g).isSome).length=(Fs.filter fun g=>(A g).isSome).length+1∧(Fs.filterMap fun g=>(if g=f then some r else A g).map (e g)).Perm ((Fs.filterMap fun g=>(A g).map (e g))++[e f r])):=by
   intro Fs
   induction Fs with
   | nil=>intro _ A f r; exact ⟨fun _=>⟨rfl,rfl⟩,fun h=>by cases h⟩
   | cons c Fs ih =>
    intro hn A f r
    obtain ⟨h1,h2⟩:=List.nodup_cons.1 hn
    obtain ⟨ih1,ih2⟩:=ih h2 A f r
    constructor
    ·intro hf
     have hc:c≠f:=fun h=>hf (h ▸ .head _)
     obtain ⟨k1,k2⟩:=ih1 (fun h=>hf (.tail _ h))
     simp only [List.filter_cons,List.filterMap_cons,if_neg hc]
     refine ⟨?_,?_⟩
     ·split <;> simp [k1]
     ·rw [k2]
    ·intro hf hA
     by_cases hc:c=f
     ·subst hc
      obtain ⟨k1,k2⟩:=ih1 h1
      simp only [List.filter_cons,List.filterMap_cons,if_pos,hA,Option.isSome_some,Option.isSome_none,Option.map_some,Option.map_none]
      refine ⟨by simp [k1],?_⟩
      rw [k2]
      exact (List.perm_append_comm (l₁:=[_])).symm.symm
     ·obtain ⟨k1,k2⟩:=ih2 ((List.mem_cons.1 hf).resolve_left (fun h=>hc h.symm)) hA
      simp only [List.filter_cons,List.filterMap_cons,if_neg hc]
      refine ⟨?_,?_⟩
      ·split <;> simp [k1]
      ·cases (A c).map (e c) with
       | none=>exact k2
       | some x=>exact k2.cons x
  intro A f r hf hA
  exact (this Fs hndFs A f r).2 hf hA
 have main:∀ (n:Nat) (D:List Nat) (A:Nat→Option Nat) (lst:Array Bool) (a:Act) (w:World) (L:List A9) (J:World→Prop),n+(D.length+cn A)=B.length+Fs.length→D.Nodup→(∀ j∈D,j∈B)→lst.size=ops.size →
   (∀ k,k < ops.size→(lst.getD k true=true↔listed.getD k true=true∨k∈D∨(k∈Fs∧(A k).isSome=true)))→(∀ k,k < ops.size→lst.getD k true=true→∀ j∈B7 (Bf ops k),lst.getD j false=true) →
   Sim C.N δ ρ a→(∀ f∈Fs,∀ r,A f=some r→a.tmps[Au ops f]? = some (Bg r 0))→Sf C ops δ isG (fun ρ' l' I'=>∀ r:Nat→Nat,KJ C (aw C ops Q (fuel-(B.length+Fs.length)) ((Fs++B).foldl (fun l i=>l.setIfInBounds i true) listed)) δ (Fs.map (fun f=>(Au ops f,Bg (r f) 0))++ρ') (l'++Fs.map (fun f=>e f (r f))) I') D a B ρ l I L J→WSat C.X C.M C.w0 (L++es A) J w →
   wpAnyIn (wf C.ro) 0 C.P .any ops Q (fuel-(D.length+cn A)) lst a w:=by
  intro n
  induction n with
  | zero =>
   intro D A lst a w L J hn hDn hDB hls hlst _ hs hfv hts hw
   have hDl:=Ea hDn hDB
   have hcl:=cn_le A
   have hcA:=cn_all A (by omega)
   have hlen:D.length+cn A=B.length+Fs.length:=by omega
   have hall:∀ j∈B,j∈D:=by
    intro j hj
    by_cases hd:j∈D
    ·exact hd
    ·have:=Ea (l:=j::D) (m:=B) (List.nodup_cons.2 ⟨hd,hDn⟩) (fun y hy=>by cases hy with
      | head=>exact hj
      | tail _ h=>exact hDB y h)
     simp at this; omega
   have he:lst=(Fs++B).foldl (fun l i=>l.setIfInBounds i true) listed:=by
    have hlt:∀ i∈Fs++B,i < listed.size:=fun i hi=>by
     rw [hsz]
     rcases List.mem_append.1 hi with hi | hi
     ·exact (hF i hi).1.1.1.1.1
     ·exact (hB i hi).1.1.1.1.1.1
    apply Array.ext
    ·rw [Fz,hls,hsz]
    ·intro k hk1 hk2
     have e1:lst.getD k true=lst[k]:=hgt _ k hk1
     have e2:((Fs++B).foldl (fun l i=>l.setIfInBounds i true) listed).getD k true=((Fs++B).foldl (fun l i=>l.setIfInBounds i true) listed)[k]:=hgt _ k hk2
     rw [← e1,← e2,Gm (Fs++B) listed hlt k (by rw [hsz]; omega)]
     rw [Bool.eq_iff_iff,hlst k (by omega)]
     simp only [Bool.or_eq_true,List.contains_iff_mem,List.mem_append]
     constructor
     ·rintro (h | h | ⟨h,_⟩)
      ·exact .inl h
      ·exact .inr (.inr (hDB k h))
      ·exact .inr (.inl h)
     ·rintro (h | h | h)
      ·exact .inl h
      ·exact .inr (.inr ⟨h,hcA k h⟩)
      ·exact .inr (.inl (hall k h))
   obtain ⟨ρ',hfin,hs'⟩:=hts.done hall hs
   rw [he,hlen]
   have hes:es A=Fs.map (fun f=>e f ((A f).getD 0)):=by
    have:∀ (G:List Nat),(∀ f∈G,(A f).isSome=true)→G.filterMap (fun f=>(A f).map (e f))=G.map (fun f=>e f ((A f).getD 0)):=by
     intro G
     induction G with
     | nil=>intro _; rfl
     | cons c G ih =>
      intro h
      obtain ⟨r,hr⟩:=Option.isSome_iff_exists.1 (h c (.head _))
      rw [List.filterMap_cons,List.map_cons,hr,ih fun f hf=>h f (.tail _ hf)]
      rfl
    exact this Fs hcA
   refine hfin (fun f=>(A f).getD 0) a w ⟨hs'.size,hs'.dfr,fun t u hu=>?_⟩ (by rw [← hes]; exact hw)
   have:∀ (G:List Nat),(∀ f∈G,f∈Fs)→lk (G.map (fun f=>(Au ops f,Bg ((A f).getD 0) 0))++ρ') t=some u→a.tmps[t]? = some u:=by
    intro G
    induction G with
    | nil=>intro _ h; exact hs'.get t u h
    | cons c G ih =>
     intro hG h
     simp only [List.map_cons,List.cons_append,lk] at h
     cases hb:Nat.beq (Au ops c) t with
     | true =>
      rw [hb] at h
      have:=Nat.eq_of_beq_eq_true hb
      subst this
      simp at h; subst h
      obtain ⟨r,hr⟩:=Option.isSome_iff_exists.1 (hcA c (hG c (.head _)))
      rw [hr]
      exact hfv c (hG c (.head _)) r hr
     | false=>rw [hb] at h; exact ih (fun f hf=>hG f (.tail _ hf)) h
   exact this Fs (fun _ h=>h) hu
  | succ n ih =>
   intro D A lst a w L J hn hDn hDB hls hlst hdn hs hfv hts hw
   have hex:(∃ i,i∈B∧i∉D)∨∃ f,f∈Fs∧A f=none:=by
    refine Classical.byContradiction fun hne=>?_
    have h1:B.length≤D.length:=Ea hnd fun i hi=>Classical.byContradiction fun hd=>hne (.inl ⟨i,hi,hd⟩)
    have h2:cn A=Fs.length:=List.length_filter_eq_length_iff.2 fun f hf=>by
     cases hA:A f with
     | none=>exact absurd (.inr ⟨f,hf,hA⟩) hne
     | some r=>rfl
    omega
   have hfl:∀ f∈Fs,A f=none→lst.getD f true=false:=fun f hf h=>by
    rw [← Bool.not_eq_true]
    intro hl
    rcases (hlst f (hF f hf).1.1.1.1.1).1 hl with h1 | h1 | h1
    ·rw [(hF f hf).1.1.1.1.2] at h1; cases h1
    ·exact hfB f hf (hDB f h1)
    ·rw [h] at h1; cases h1.2
   have hDown:Down ops (fun k=>k < ops.size∧lst.getD k true=true∨ops.size≤k∧lst.getD k false=true):=by
    intro k hk j hj
    have hjl:lst.getD j false=true:=by
     rcases hk with hk | hk
     ·exact hdn k hk.1 hk.2 j hj
     ·exact absurd hk.2 (by simp [Array.getD_eq_getD_getElem?,Array.getElem?_eq_none (show lst.size≤k by omega)])
    rcases Nat.lt_or_ge j ops.size with h | h
    ·exact .inl ⟨h,by rw [Ci (by omega) true false]; exact hjl⟩
    ·exact .inr ⟨h,hjl⟩
   have hbit:∀ k,k < ops.size→(∀ j∈B7 (Bf ops k),lst.getD j false=true)→∀ j,((mks ops.toList []).getD k 0).testBit j=true→j < ops.size→lst.getD j true=true:=by
    intro k hk hb j hj hjs
    cases hm:(mks ops.toList [])[k]? with
    | none=>simp [List.getD,hm] at hj
    | some m =>
     simp only [List.getD,hm,Option.getD_some] at hj
     have:=mks_in hDown ops.toList [] rfl (fun i m hi=>by simp at hi) k m hm (fun j hj=>by
      rcases Nat.lt_or_ge j ops.size with h | h
      ·exact .inl ⟨h,by rw [Ci (by omega) true false]; exact hb j hj⟩
      ·exact .inr ⟨h,hb j hj⟩) j hj
     rcases this with h | h
     ·exact h.2
     ·omega
   have hup:∀ j,j < ops.size→listed.getD j false=true→lst.getD j false=true:=fun j hjs h=>by
    rw [Ci (by omega) false true]
    exact (hlst j hjs).2 (.inl (by rw [Ci (by omega) true false]; exact h))
   have hlsj:∀ j,listed.getD j false=true→j < ops.size:=fun j h=>by
    rcases Nat.lt_or_ge j ops.size with h' | h'
    ·exact h'
    ·simp [Array.getD_eq_getD_getElem?,Array.getElem?_eq_none (show listed.size≤j by omega)] at h
   have hfu:fuel-(D.length+cn A)=(fuel-(D.length+cn A+1))+1:=by omega
   rw [hfu]
   refine ⟨fun h0=>?_,fun i hi=>?_⟩
   ·have hne:∃ i,i∈Region.ready .any ops lst:=by
     rcases hex with hex | ⟨f,hf,hfd⟩
     ·obtain ⟨i,h1,h2,h3⟩:=Ha hex
      have hBi:=hB i h1
      refine ⟨i,C1.2 ⟨hBi.1.1.1.1.1.1,?_,fun j hj=>?_⟩⟩
      ·rw [← Bool.not_eq_true]
       intro hl
       rcases (hlst i hBi.1.1.1.1.1.1).1 hl with h | h | h
       ·rw [hBi.1.1.1.1.1.2] at h; cases h
       ·exact h2 h
       ·exact hfB i h.1 h1
      ·rcases hBi.1.2 j hj with h | ⟨h,h'⟩
       ·exact hup j (hlsj j h) h
       ·have hjs:j < ops.size:=(hB j h).1.1.1.1.1.1
        rw [Ci (by omega) false true]
        exact (hlst j hjs).2 (.inr (.inl (h3 j h h')))
     ·exact ⟨f,C1.2 ⟨(hF f hf).1.1.1.1.1,hfl f hf hfd,fun j hj=>hup j (hlsj j ((hF f hf).2 j hj)) ((hF f hf).2 j hj)⟩⟩
    obtain ⟨i,hi⟩:=hne
    rw [h0] at hi
    cases hi
   ·obtain ⟨his,hil,hib⟩:=C1.1 hi
    have hiBf:i∈B∨(i∈Fs∧A i=none):=by
     rcases hout i his with ((h | h) | h) | h
     ·exact .inl h
     ·refine .inr ⟨h,?_⟩
      cases hfd:A i with
      | none=>rfl
      | some r =>
       have:=(hlst i his).2 (.inr (.inr ⟨h,by rw [hfd]; rfl⟩))
       rw [hil] at this; cases this
     ·exact absurd ((hlst i his).2 (.inl h)) (by simp [hil])
     ·exfalso
      rcases hex with ⟨j,hj,hjd⟩ | ⟨f,hf,hfd⟩
      ·have hjs:=(hB j hj).1.1.1.1.1.1
       rcases (hlst j hjs).1 (hbit i his hib j (h.2 j hj) hjs) with h' | h' | h'
       ·rw [(hB j hj).1.1.1.1.1.2] at h'; cases h'
       ·exact hjd h'
       ·exact hfB j h'.1 hj
      ·have:=hbit i his hib f (h.1 f hf) (hF f hf).1.1.1.1.1
       rw [hfl f hf hfd] at this; cases this
    have ho:ops[i]? = some (Bf ops i):=by simp [Bf,his]
    simp only [wpOpIn,ho]
    have hdn':∀ k,k < ops.size→(lst.setIfInBounds i true).getD k true=true→∀ j∈B7 (Bf ops k),(lst.setIfInBounds i true).getD j false=true:=fun k hk hkl j hj=>by
     rw [Ep (by omega)] at hkl ⊢
     by_cases hji:j=i
     ·rw [if_pos hji]
     ·rw [if_neg hji]
      by_cases h:k=i
      ·subst h; exact hib j hj
      ·rw [if_neg h] at hkl; exact hdn k hk hkl j hj
    rcases hiBf with hiB | ⟨hif,hfd⟩
    ·have hiD:i∉D:=fun h=>by
      have:=(hlst i his).2 (.inr (.inl h))
      rw [hil] at this; cases this
     have hBi:=hB i hiB
     have hbm:∀ j∈Bd i B,j∈B:=by
      have:∀ {B:List Nat} {j:Nat},j∈Bd i B→j∈B:=by
       intro B
       induction B with
       | nil=>intro j h; cases h
       | cons c B ihB =>
        intro j h
        simp only [Bd] at h
        split at h
        ·cases h
        ·cases h with
         | head=>exact .head _
         | tail _ h=>exact .tail _ (ihB h)
      exact fun j h=>this h
     have hdone:∀ j∈Bd i B,((mks ops.toList []).getD i 0).testBit j=true→j∈D:=by
      intro j hj hb
      have hjB:=hbm j hj
      have hjs:=(hB j hjB).1.1.1.1.1.1
      rcases (hlst j hjs).1 (hbit i his hib j hb hjs) with h | h | h
      ·rw [(hB j hjB).1.1.1.1.1.2] at h; cases h
      ·exact h
      ·exact absurd hjB (hfB j h.1)
     have hdi:(Bf ops i).dst=some (Au ops i):=by
      have:=hBi.1.1.1.1.2
      unfold Au
      cases h:(Bf ops i).dst with
      | none=>rw [h] at this; cases this
      | some d=>rfl
     have hinj:∀ j∈B,j≠i→Au ops j≠Au ops i:=by
      intro j hjB hne e
      have:∀ {B:List Nat},(B.map (Au ops)).Nodup→j∈B→i∈B→False:=by
       intro B
       induction B with
       | nil=>intro _ h; cases h
       | cons c B ihB =>
        intro hnn h1 h2
        simp only [List.map_cons,List.nodup_cons] at hnn
        cases h1 with
        | head=>cases h2 with
         | head=>exact hne rfl
         | tail _ h2=>exact hnn.1 (e ▸ List.mem_map.2 ⟨i,h2,rfl⟩)
        | tail _ h1=>cases h2 with
         | head=>exact hnn.1 (e ▸ List.mem_map.2 ⟨j,h1,rfl⟩)
         | tail _ h2=>exact ihB hnn.2 h1 h2
      exact this hdst hjB hiB
     have hst:=Sf.step (M:=es A) (Q:=Q) hiD hdi hBi.1.1.2 (fun cs b e=>by have:=hBi.1.1.1.2; rw [e] at this; cases this) (fun c e=>by have:=hBi.1.1.1.2; rw [e] at this; cases this) hs.size hs.dfr hts hiB hnd
      (fun j hj=>(hB j hj).1.1.2) hinj
      (fun g hg hgg=>by
       rcases hBi.2 g hg with h | h
       ·exact hdone g hg h
       ·exact absurd hgg (by simp [h.1.1]))
      (fun j hj hr=>by
       rcases hBi.2 j hj with h | h
       ·exact hdone j hj h
       ·exfalso
        rcases hr with hr | ⟨g,b,hg,hd⟩
        ·rw [H3,h.1.2] at hr; cases hr
        ·have:=h.2
         rw [hg] at this
         simp [hd] at this)
      (fun t v hv=>by
       have:=hs.get t v hv
       have:=(Array.getElem?_eq_some_iff.1 this).1
       have:=hs.size
       omega)
      ⟨fun t _ v hv=>hs.get t v hv,fun _ _ d _ _ v hv=>hs.get d v hv⟩ hw
     refine Bs ?_ hst
     rintro a' w' ⟨v,rfl,L',J',hts',hw'⟩
     have hr:=ih (i::D) A (lst.setIfInBounds i true) _ w' L' J' (by simp only [List.length_cons]; omega) (List.nodup_cons.2 ⟨hiD,hDn⟩)
      (fun j hj=>by cases hj with
       | head=>exact hiB
       | tail _ h=>exact hDB j h) (by simpa using hls)
      (fun k hk=>by
       rw [Ep (by omega)]
       by_cases h:k=i
       ·subst h; simp
       ·rw [if_neg h,hlst k hk]; simp [h])
      hdn'
      ⟨by simp [Act.put,hs.size],by simp [Act.put,hs.dfr],fun t v' h=>by
       have hne:Au ops i≠t:=by rintro rfl; rw [hfresh i hiB] at h; cases h
       have:=hs.get t v' h
       simp only [Act.put,Array.getElem?_setIfInBounds]
       rw [if_neg hne]; exact this⟩
      (fun f hf r hr=>by
       have:=hfv f hf r hr
       simp only [Act.put,Array.getElem?_setIfInBounds]
       rw [if_neg (hdfne f hf i hiB)]; exact this) hts' hw'
     rw [show fuel-(D.length+cn A+1)=fuel-((i::D).length+cn A) by simp only [List.length_cons]; omega]
     exact hr
    ·obtain ⟨hc1,hc2⟩:=hset A i 0 hif hfd
     have hst:=Fx (Q:=Q) (a:=a) (w:=w) (ρ:=[]) (hdf i hif) (hF i hif).1.2 (fun cs b e=>by have:=(hF i hif).1.1.2; rw [e] at this; cases this) (fun c e=>by have:=(hF i hif).1.1.2; rw [e] at this; cases this) hs.size hs.dfr
      (fun t v h=>nomatch h) ⟨fun _ _ v h=>(nomatch h),fun _ _ _ _ _ v h=>(nomatch h)⟩ (rf i hif (L++es A) J) hw (fun _ h=>h)
     refine Bs ?_ hst
     rintro a' w' ⟨r,_,rfl,hw'⟩
     obtain ⟨hc1,hc2⟩:=hset A i r hif hfd
     have hr:=ih D (fun x=>if x=i then some r else A x) (lst.setIfInBounds i true) (a.put (some (Au ops i)) (Bg r 0)) w' L J (by omega) hDn hDB (by simpa using hls)
      (fun k hk=>by
       rw [Ep (by omega)]
       by_cases h:k=i
       ·subst h; simp [hif]
       ·rw [if_neg h,hlst k hk]; simp [h])
      hdn'
      ⟨by simp [Act.put,hs.size],by simp [Act.put,hs.dfr],fun t v' h=>by
       have hne:Au ops i≠t:=by rintro rfl; rw [hfreshF i hif] at h; cases h
       have:=hs.get t v' h
       simp only [Act.put,Array.getElem?_setIfInBounds]
       rw [if_neg hne]; exact this⟩
      (fun f hf r' hr'=>by
       by_cases hfi:f=i
       ·subst hfi
        rw [if_pos rfl] at hr'
        cases hr'
        have hlt:Au ops f < a.tmps.size:=by rw [hs.size]; exact (hF f hf).1.2
        simp only [Act.put,Array.getElem?_setIfInBounds]
        rw [if_pos trivial,if_pos hlt]
       ·rw [if_neg hfi] at hr'
        have:=hfv f hf r' hr'
        simp only [Act.put,Array.getElem?_setIfInBounds]
        rw [if_neg (hdff i hif f hf (fun h=>hfi h.symm))]; exact this)
      (hts.mono (fun _ _=>Iff.rfl) (fun j hj _=>by
       simp only [Act.put,Array.getElem?_setIfInBounds]
       rw [if_neg (fun e=>hdfne i hif j hj e.symm)])) ((hw'.imp fun w h=>h.2).perm (by rw [List.append_assoc]; exact List.Perm.append_left L hc2))
     rw [show fuel-(D.length+cn A+1)=fuel-(D.length+cn (fun x=>if x=i then some r else A x)) by rw [hc1]; rfl]
     exact hr
 intro a w ha hw
 have hc0:cn (fun _=>none)=0:=by show (Fs.filter _).length=0; rw [List.filter_eq_nil_iff.2 (fun _ _=>by simp)]; rfl
 have he0:es (fun _=>none)=[]:=List.filterMap_eq_nil_iff.2 (fun _ _=>rfl)
 have:=main (B.length+Fs.length) [] (fun _=>none) listed a w l I (by rw [hc0]; simp) (by simp) (by simp) hsz (by simp) (fun k hk hl j hj=>by
  rcases hdown k hk with h | h
  ·rw [h] at hl; cases hl
  ·exact h j hj) ha (fun f _ r h=>by cases h) (.stop (by simp) k) (by rw [he0,List.append_nil]; exact hw)
 rw [hc0] at this
 simpa using this
theorem dj_freesX {fuel:Nat} {listed:Array Bool} (B:List Nat) (isG:Nat→Bool) (Fs:List Nat) (e:Nat→Nat→A9) (E:(Nat→Nat)→List A9) (R:(Nat→Nat)→Da) (hE:E=fun r=>Fs.map (fun f=>e f (r f))) (hR:R=fun r=>Fs.map (fun f=>(Au ops f,Bg (r f) 0))) (hchk:thB ops listed C.N B isG Fs=true) (hf:Nat.ble (B.length+Fs.length) fuel=true) (hfresh:(Fs++B).all (fun i=>(lk ρ (Au ops i)).isNone)=true)
  (rf:∀ f∈Fs,∀ (L:List A9) (J:World→Prop),Rg C ops δ L f [] J (fun _:Nat=>True) (fun r=>Bg r 0) (fun r=>L++[e f r]) (fun _ _=>True))
  (k:Tf C ops δ isG (fun ρ' l' I'=>∀ r:Nat→Nat,KJ C (aw C ops Q (fuel-(B.length+Fs.length)) ((Fs++B).foldl (fun l i=>l.setIfInBounds i true) listed)) δ (R r++ρ') (l'++E r) I') B ρ l I) :
  KJ C (aw C ops Q fuel listed) δ ρ l I:=by
 subst hE hR
 exact dj_frees B isG Fs e hchk hf hfresh rf k
theorem mem2 {p:Nat→Prop} {a b:Nat} (h1:p a) (h2:p b):∀ f∈[a,b],p f:=fun f hf=>by
 rcases List.mem_cons.1 hf with rfl | hf
 ·exact h1
 ·rw [List.mem_singleton.1 hf]; exact h2
end Go.Chx
namespace Go.Chx
open Go
variable {C:Ctx} {δ:List Deferred} {ρ:Da} {l:List A9} {I:World→Prop} {K:Act→World→Prop} {Q:Exit→Act→World→Prop}
def only (N:Act→World→Prop):Exit→Act→World→Prop
 | .normal=>N
 | _=>fun _ _=>False
theorem cj_drawN {id:Nat} {os:List Oper} (hm:C.P.follows .mixedOrders=true) (h:KJ C (aw C os.toArray (only (Q .normal)) os.length (Array.replicate os.length false)) δ ρ l I):KJ C (cw C (.region id os.toArray true) Q) δ ρ l I:=by
 intro a w ha hw
 refine Code.wpIn_mono (fun e a w h=>?_) (A5 (Q:=only (Q .normal)) hm h a w ha hw)
 cases e <;> first | exact h | exact h.elim
def addE (o:Oper) (e:Nat):Oper:={ o with after:=o.after.push ⟨e,.data⟩ }
def addL:List Oper→Nat→Nat→List Oper
 | [],_,_=>[]
 | o::os,0,e=>addE o e::os
 | o::os,k+1,e=>o::addL os k e
theorem addL_at:∀ (os:List Oper) (k e i:Nat),(addL os k e)[i]? = (os[i]?).map (fun o=>if i=k then addE o e else o)
 | [],_,_,i=>by simp [addL]
 | o::os,0,e,0=>by simp [addL]
 | o::os,0,e,i+1=>by simp [addL]
 | o::os,k+1,e,0=>by simp [addL]
 | o::os,k+1,e,i+1=>by
  have:=addL_at os k e i
  simp only [addL,List.getElem?_cons_succ,this,Nat.succ_eq_add_one,Nat.add_right_cancel_iff]
theorem addL_len (os:List Oper) (k e:Nat):(addL os k e).length=os.length:=by
 induction os generalizing k with
 | nil=>rfl
 | cons o os ih=>cases k <;> simp [addL,ih]
theorem bind_addE (o:Oper) (e:Nat):B7 (addE o e)=B7 o++[e]:=by
 have h:Region.binds .any (⟨e,.data⟩:Edge)=true:=rfl
 simp [B7,addE,List.filter_append,h]
theorem opAt_addL (os:List Oper) (k e i:Nat) (h:i < os.length):Bf (addL os k e).toArray i=if i=k then addE (Bf os.toArray i) e else Bf os.toArray i:=by
 have h2:os[i]? = some os[i]:=by simp [h]
 simp only [Bf,List.getElem?_toArray,addL_at,h2,Option.map_some,Option.getD_some]
theorem yielded_addL (os:List Oper) (k e:Nat) (t:Array Value) (j:Nat):yielded (addL os k e).toArray t j=yielded os.toArray t j:=by
 unfold yielded
 simp only [List.getElem?_toArray,addL_at]
 cases os[j]? with
 | none=>rfl
 | some o =>
  have:(if j=k then addE o e else o).dst=o.dst:=by split <;> rfl
  simp only [Option.map_some,Option.bind_some,this]
theorem wpOp_addL {F:Fence} {n:Nat} {P:Program} {os:List Oper} {k e i:Nat} {K:Act→World→Prop} {a:Act} {w:World} (h:wpOpIn F n P (addL os k e).toArray Q i K a w):wpOpIn F n P os.toArray Q i K a w:=by
 have hy:yielded (addL os k e).toArray a.tmps=yielded os.toArray a.tmps:=funext fun j=>yielded_addL os k e _ j
 unfold wpOpIn at *
 rw [hy] at h
 simp only [List.getElem?_toArray,addL_at] at h ⊢
 cases ho:os[i]? with
 | none=>rw [ho] at h; exact h
 | some o =>
  rw [ho] at h
  simp only [Option.map_some] at h
  split at h
  ·exact h
  ·exact h
def lazyB (os:List Oper) (listed:Array Bool) (k e:Nat):Bool :=
 decide (k≠e) && decide (e < os.length) && decide (k < os.length) && listed.size == os.length && Region.noSelect os.toArray && (List.range os.length).all (fun j=>j == e || (B7 (Bf os.toArray e)).contains j || (B7 (Bf os.toArray j)).contains e || (Bf os.toArray e).apart os.toArray (Bf os.toArray j)) &&
 (match Bf os.toArray e with | ⟨_,.extract _ _,_,_,_,none⟩=>true | _=>false) &&
 (B7 (Bf os.toArray e)).all (fun j=>(B7 (Bf os.toArray k)).contains j)
theorem dj_edge {N:Act→World→Prop} {os:List Oper} {fuel:Nat} {listed:Array Bool} (k e:Nat) (hro:C.ro=none) (hc:lazyB os listed k e=true) (h:KJ C (aw C (addL os k e).toArray (only N) fuel listed) δ ρ l I):KJ C (aw C os.toArray (only N) fuel listed) δ ρ l I:=by
 simp only [lazyB,Bool.and_eq_true,decide_eq_true_eq,beq_iff_eq,List.all_eq_true,List.contains_iff_mem,Bool.or_eq_true,List.mem_range] at hc
 obtain ⟨⟨⟨⟨⟨⟨⟨hke,he⟩,hk⟩,hsz⟩,hns⟩,hfr⟩,hop⟩,hbd⟩:=hc
 have hoe:os.toArray[e]? = some (Bf os.toArray e):=by simp [Bf,he]
 obtain ⟨d,x,j,t,p,af,hopE⟩:∃ d x j t p af,Bf os.toArray e=⟨d,.extract x j,t,p,af,none⟩:=by
  split at hop
  ·rename_i heq; exact ⟨_,_,_,_,_,_,heq⟩
  ·cases hop
 have sub:∀ (lst:Array Bool) (i:Nat),i∈Region.ready .any (addL os k e).toArray lst→i∈Region.ready .any os.toArray lst:=by
  intro lst i hi
  obtain ⟨h1,h2,h3⟩:=C1.1 hi
  have h1':i < os.length:=by simpa [addL_len] using h1
  refine C1.2 ⟨by simpa using h1',h2,fun j hj=>h3 j ?_⟩
  rw [opAt_addL _ _ _ _ h1']
  split
  ·rw [bind_addE]; exact List.mem_append_left _ hj
  ·exact hj
 have sup:∀ (lst:Array Bool) (i:Nat),lst.size=os.length→i∈Region.ready .any os.toArray lst→i∈Region.ready .any (addL os k e).toArray lst∨(i=k∧e∈Region.ready .any (addL os k e).toArray lst):=by
  intro lst i hls hi
  obtain ⟨h1,h2,h3⟩:=C1.1 hi
  have h1':i < os.length:=by simpa using h1
  by_cases hik:i=k
  ·subst hik
   cases hle:lst.getD e false with
   | true =>
    refine .inl (C1.2 ⟨by simpa [addL_len] using h1',h2,fun j hj=>?_⟩)
    rw [opAt_addL _ _ _ _ h1',if_pos rfl,bind_addE] at hj
    rcases List.mem_append.1 hj with hj | hj
    ·exact h3 j hj
    ·rw [List.mem_singleton.1 hj]; exact hle
   | false =>
    refine .inr ⟨rfl,C1.2 ⟨by simpa [addL_len] using he,by rw [Ci (by omega) true false]; exact hle,fun j hj=>?_⟩⟩
    rw [opAt_addL _ _ _ _ he,if_neg (fun h=>hke h.symm)] at hj
    exact h3 j (hbd j hj)
  ·refine .inl (C1.2 ⟨by simpa [addL_len] using h1',h2,fun j hj=>?_⟩)
   rw [opAt_addL _ _ _ _ h1',if_neg hik] at hj
   exact h3 j hj
 have main:∀ (n:Nat) (lst:Array Bool) (a:Act) (w:World),lst.size=os.length→(∀ i,listed.getD i true=true→lst.getD i true=true)→wpAnyIn (wf C.ro) 0 C.P .any (addL os k e).toArray (only N) n lst a w→wpAnyIn (wf C.ro) 0 C.P .any os.toArray (only N) n lst a w:=by
  intro n
  induction n with
  | zero =>
   intro lst a w hls _ H
   refine ⟨(List.eq_nil_iff_forall_not_mem.2 fun i hi=>?_),H.2⟩
   have H1:=H.1
   rcases sup lst i hls hi with h | h
   ·rw [H1] at h; cases h
   ·have:=h.2; rw [H1] at this; cases this
  | succ n ih =>
   intro lst a w hls hll H
   have hset:∀ m,(∀ i,listed.getD i true=true→(lst.setIfInBounds m true).getD i true=true):=fun m i hi=>by
    by_cases hm:m < lst.size
    ·rw [Ep hm]; split
     ·rfl
     ·exact hll i hi
    ·rw [Array.setIfInBounds_eq_of_size_le (by omega)]; exact hll i hi
   refine ⟨fun h0=>H.1 ?_,fun i hi=>?_⟩
   ·refine List.eq_nil_iff_forall_not_mem.2 fun i hi=>?_
    have:=sub lst i hi
    rw [h0] at this; cases this
   ·rcases sup lst i hls hi with h | ⟨rfl,h⟩
    ·exact wpOpIn_mono (fun a' w' h'=>ih _ a' w' (by simpa using hls) (hset i) h') (wpOp_addL (H.2 i h))
    ·have h1:=wpOp_addL (H.2 e h)
     have hy:∃ v,YieldsFenced C.P os.toArray (Bf os.toArray e) v a∧wpAnyIn (wf C.ro) 0 C.P .any (addL os i e).toArray (only N) n (lst.setIfInBounds e true) (a.put (Bf os.toArray e).dst v) w:=by
      simp only [wpOpIn,hoe] at h1
      rw [hopE] at h1 ⊢
      simp only [Region.wanted,if_true,Oper.wpIn] at h1
      have h2:=h1.2
      rw [Oper.semAt_eq _ _ _ (by simp)] at h2
      have key:∀ w,(execOp a.eval ⟨d,.extract x j,t,p,af,none⟩).run C.P w=((fun v=>Next.value v) <$> Instr.extract (a.eval x) j).run C.P w:=fun _=>rfl
      rw [key] at h2
      cases hx:a.eval x <;> simp only [hx,Instr.extract] at h2
      case tuple vs =>
       cases hv:vs[j]? with
       | none=>simp [hv,Oper.uponIn,stuck] at h2
       | some v =>
        refine ⟨v,⟨.inl ⟨rfl,fun w=>by rw [key,hx]; simp [Instr.extract,hv]⟩,fun w=>rfl⟩,?_⟩
        simpa [hv,Oper.uponIn] using h2
      all_goals simp [Oper.uponIn,stuck] at h2
     obtain ⟨v,hyv,hv⟩:=hy
     have h3:=ih _ _ _ (by simpa using hls) (hset e) hv
     refine (wpAnyIn_first (by exact hro) hoe (Region.noSelect_spec hns) (fun c a w h=>h.elim) n lst a w (fun j oj hj hne hun hno=>?_) (sub lst e h) hyv h3).2 i hi
     have hjl:j < os.length:=by have:=(Array.getElem?_eq_some_iff.1 hj).1; simpa using this
     have hoj:oj=Bf os.toArray j:=by simp [Bf,hj]
     rcases hfr j hjl with ((h5 | h5) | h5) | h5
     ·exact absurd h5 hne
     ·have h6:=(C1.1 (sub lst e h)).2.2 j h5
      rw [Ci (by omega) false true,hun] at h6
      cases h6
     ·exfalso
      rw [← hoj] at h5
      obtain ⟨ed,hed,hon⟩:=List.mem_map.1 h5
      obtain ⟨hed1,hed2⟩:=List.mem_filter.1 hed
      exact hno ed (by simpa using hed1) hed2 hon
     ·rw [hoj]; exact h5
 exact fun a w ha hw=>main fuel listed a w hsz (fun _ h=>h) (h a w ha hw)
theorem dj_endN {N:Act→World→Prop} {ops:Array Oper} {fuel:Nat} {listed:Array Bool} (k:KJ C N δ ρ l I) (hr:Region.ready .any ops listed=[]:=by kernel_rfl):KJ C (aw C ops (only N) fuel listed) δ ρ l I:=A6 k hr
end Go.Chx
