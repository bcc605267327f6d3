/- Part of the proof that the law CommitsMembers holds. -/
import Derived.Test.YtegbaopejhpnkaaGreatDoorAa
import Derived.Test.YtegbaopejhpnkaaGreatDoorAm
import Derived.Test.YtegbaopejhpnkaaGreatDoorAw
import Derived.Test.YtegbaopejhpnkaaGreatDoorAx
import Derived.Test.YtegbaopejhpnkaaGreatDoorBc
namespace Go.Chx
open Go
theorem compact_mem {zs:List Int} {x:Int} (h:x∈zs):x∈Lib.compact zs:=by
 have hex:∃ n,n < zs.length∧zs[n]? = some x:=by
  obtain ⟨i,hi⟩:=List.mem_iff_getElem?.1 h
  exact ⟨i,(List.getElem?_eq_some_iff.1 hi).1,hi⟩
 obtain ⟨n,⟨hn,hx⟩,hmin⟩:=least_of hex
 unfold Lib.compact Lib.compactUpTo
 rw [List.mem_map]
 have e:zs.toArray[n]! = x:=by
  obtain ⟨h1,h2⟩:=List.getElem?_eq_some_iff.1 hx
  simp [hn,h2]
 refine ⟨n,List.mem_filter.2 ⟨by simpa using hn,?_⟩,e⟩
 unfold Lib.keeps
 simp only [decide_eq_true_eq]
 rcases Nat.eq_zero_or_pos n with h0 | h0
 ·exact .inl h0
 ·refine .inr fun hc=>?_
  rw [e] at hc
  have h1:n-1 < zs.length:=by omega
  have h2:zs[n-1]? = some x:=by
   rw [List.getElem?_eq_getElem h1]
   have:zs.toArray[n-1]! = zs[n-1]:=by simp [h1]
   rw [← this,← hc]
  have:=hmin (n-1) ⟨h1,h2⟩
  omega
theorem memL_iff {l:List (Int × Int)} {d:Int}:d∈Ga l↔0≤d∧d < 512∧∃ p,(512+d,p)∈l:=by
 refine ⟨memL_mem,fun ⟨h0,h1,p,hp⟩=>(compact_mem ((List.mergeSort_perm (memA l) (fun x y=>decide (x≤y))).mem_iff.2 ?_))⟩
 unfold memA
 refine List.mem_map.2 ⟨(512+d,p),List.mem_filter.2 ⟨hp,by simp [isLf]; omega⟩,by show 512+d-512=d; omega⟩
abbrev TSrt (l:List (Int × Int)):Prop:=l.Pairwise fun a b=>a.1 < b.1
theorem lookup_mem {l:List (Int × Int)} (hs:TSrt l) {k v:Int}:l.lookup k=some v↔(k,v)∈l:=by
 induction l with
 | nil=>simp
 | cons q l ih =>
  obtain ⟨h1,h2⟩:=List.pairwise_cons.1 hs
  rw [List.lookup_cons]
  by_cases hk:k=q.1
  ·have:(k == q.1)=true:=by simpa using hk
   rw [this]
   constructor
   ·intro h
    have e2:q.2=v:=by simpa using h
    rw [hk,← e2]; exact .head _
   ·intro h
    rcases List.mem_cons.1 h with h | h
    ·rw [← h]
    ·have:=h1 _ h; simp only at this; omega
  ·have:(k == q.1)=false:=by simpa using hk
   rw [this]
   simp only
   rw [ih h2,List.mem_cons]
   constructor
   ·exact .inr
   ·rintro (h | h)
    ·exact absurd (congrArg Prod.fst h) hk
    ·exact h
theorem ofF_mem {l:List (Int × Int)} (hs:TSrt l) {k v:Int}:ofF l k=some (iv v)↔(k,v)∈l:=by
 rw [← lookup_mem hs]
 unfold ofF
 cases l.lookup k with
 | none=>simp
 | some u=>simp
theorem ofF_some {l:List (Int × Int)} {k:Int}:(ofF l k).isSome=true↔∃ v,ofF l k=some (iv v):=by
 unfold ofF
 cases l.lookup k with
 | none=>simp
 | some u=>simp
def TkF (f:Int→Option Value):Prop:=∀ x p,f x=some (iv p)→1≤x∧x≤1023∧el p=true∧∃ d,0≤d∧d < 512∧(f (512+d)).isSome=true∧x∈upK d
theorem tk_srt {l:List (Int × Int)} (h:Fu l):TSrt l:=by
 have h1:∀ (j i:Nat) (p q:Int × Int),i < j→l[i]? = some p→l[j]? = some q→p.1 < q.1:=by
  intro j
  induction j with
  | zero=>intro i p q hi; omega
  | succ j ih =>
   intro i p q hi hp hq
   obtain ⟨q',hq',_,_,hpr,_⟩:=h (j+1) (List.getElem?_eq_some_iff.1 hq).1
   rw [hq] at hq'; cases hq'
   have hjl:j < l.length:=by have:=(List.getElem?_eq_some_iff.1 hq).1; omega
   have h2:=hpr l[j] (by omega) (by rw [Nat.add_sub_cancel]; exact List.getElem?_eq_getElem hjl)
   rcases Nat.lt_or_ge i j with h3 | h3
   ·have:=ih i p l[j] h3 hp (List.getElem?_eq_getElem hjl); omega
   ·have:i=j:=by omega
    subst this
    rw [List.getElem?_eq_getElem hjl] at hp
    cases hp; exact h2
 unfold TSrt
 rw [List.pairwise_iff_getElem]
 intro i j hi hj hij
 exact h1 j i _ _ hij (List.getElem?_eq_getElem hi) (List.getElem?_eq_getElem hj)
theorem tk_iff {l:List (Int × Int)}:Fu l↔TSrt l∧TkF (ofF l):=by
 constructor
 ·intro h
  have hs:=tk_srt h
  refine ⟨hs,fun x p hx=>?_⟩
  have hm:=(ofF_mem hs).1 hx
  obtain ⟨i,hi⟩:=List.mem_iff_getElem?.1 hm
  obtain ⟨q,hq,h1,h2,_,h3,h4⟩:=h i (List.getElem?_eq_some_iff.1 hi).1
  rw [hi] at hq; cases hq
  unfold usK at h4
  obtain ⟨d,hd,hu⟩:=List.mem_flatMap.1 h4
  obtain ⟨h5,h6,p',h7⟩:=memL_iff.1 hd
  exact ⟨h1,h2,h3,d,h5,h6,by rw [(ofF_mem hs).2 h7]; rfl,hu⟩
 ·rintro ⟨hs,hf⟩ i hi
  have hm:l[i]∈l:=List.getElem_mem hi
  obtain ⟨h1,h2,h3,d,h5,h6,h7,h8⟩:=hf l[i].1 l[i].2 ((ofF_mem hs).2 hm)
  obtain ⟨v,hv⟩:=ofF_some.1 h7
  refine ⟨l[i],List.getElem?_eq_getElem hi,h1,h2,fun p h0 hp=>?_,h3,?_⟩
  ·unfold TSrt at hs
   rw [List.pairwise_iff_getElem] at hs
   obtain ⟨hj,e⟩:=List.getElem?_eq_some_iff.1 hp
   have:=hs (i-1) i hj hi (by omega)
   rw [e] at this; exact this
  ·unfold usK
   exact List.mem_flatMap.2 ⟨d,memL_iff.2 ⟨h5,h6,v,(ofF_mem hs).1 hv⟩,h8⟩
theorem ups_ge {n x:Nat} (hx:x∈ups n):2≤x∧x≤n:=by
 induction n using Nat.strongRecOn with
 | _ n ih =>
  rcases Nat.lt_or_ge 1 n with h | h
  ·rw [ups_gt h] at hx
   rcases List.mem_cons.1 hx with rfl | hx
   ·omega
   ·have:=ih (n / 2) (by omega) hx; omega
  ·rw [ups_le h] at hx; cases hx
theorem upK_mem {d x:Int} (hd:0≤d∧d < 512) (hx:x∈upK d):1≤x∧x≤1023∧(512≤x→x=512+d):=by
 unfold upK at hx
 rcases List.mem_cons.1 hx with rfl | hx
 ·omega
 ·unfold Dz at hx
  rw [if_pos (Bu.2 hd)] at hx
  obtain ⟨n,hn,rfl⟩:=List.mem_map.1 hx
  have:=ups_ge hn
  unfold C8
  omega
theorem upK_self (d:Int):512+d∈upK d:=.head _
theorem TkF.del {f:Int→Option Value} (h:TkF f) {d:Int} (hd:0≤d∧d < 512):TkF (delK f (upK d)):=by
 intro x p hx
 unfold delK at hx
 split at hx
 ·cases hx
 ·rename_i hn
  obtain ⟨h1,h2,h3,m,h4,h5,h6,h7⟩:=h x p hx
  refine ⟨h1,h2,h3,m,h4,h5,?_,h7⟩
  unfold delK
  rw [if_neg]
  ·exact h6
  ·intro hm
   have:=(upK_mem hd hm).2.2 (by omega)
   have:m=d:=by omega
   subst this; exact hn h7
theorem TkF.put {f:Int→Option Value} (h:TkF f) {d p:Int} (hd:0≤d∧d < 512) (hp:el p=true):TkF (Ft f (512+d) (iv p)):=by
 intro x q hx
 unfold Ft at hx
 split at hx
 ·rename_i e
  subst e
  cases hx
  exact ⟨by omega,by omega,hp,d,hd.1,hd.2,by unfold Ft; rw [if_pos rfl]; rfl,upK_self d⟩
 ·obtain ⟨h1,h2,h3,m,h4,h5,h6,h7⟩:=h x q hx
  refine ⟨h1,h2,h3,m,h4,h5,?_,h7⟩
  unfold Ft
  split
  ·rfl
  ·exact h6
theorem TkF.putUp {f:Int→Option Value} (h:TkF f) {d x p:Int} (hd:0≤d∧d < 512) (hl:(f (512+d)).isSome=true) (hx:x∈upK d) (hp:el p=true):TkF (Ft f x (iv p)):=by
 intro y q hy
 have hkeep:∀ m,(f (512+m)).isSome=true→(Ft f x (iv p) (512+m)).isSome=true:=fun m hm=>by
  unfold Ft; split
  ·rfl
  ·exact hm
 unfold Ft at hy
 split at hy
 ·rename_i e
  subst e
  cases hy
  have:=upK_mem hd hx
  exact ⟨this.1,this.2.1,hp,d,hd.1,hd.2,hkeep d hl,hx⟩
 ·obtain ⟨h1,h2,h3,m,h4,h5,h6,h7⟩:=h y q hy
  exact ⟨h1,h2,h3,m,h4,h5,hkeep m h6,h7⟩
theorem TkF.puts {d:Int} (hd:0≤d∧d < 512):∀ (qs:List (Int × Int)) {f:Int→Option Value},TkF f→(f (512+d)).isSome=true→(∀ q∈qs,q.1∈upK d∧el q.2=true)→TkF (Jz f qs)∧(Jz f qs (512+d)).isSome=true
 | [],f,h,hl,_=>⟨h,hl⟩
 | q::qs,f,h,hl,hq=>by
  have h1:=hq q (.head _)
  exact TkF.puts hd qs (f:=Ft f q.1 (iv q.2)) (h.putUp hd hl h1.1 h1.2) (by unfold Ft; split <;> first | rfl | exact hl) fun r hr=>hq r (.tail _ hr)
def Di (f:Int→Option Value):Prop:=I1 f∧∃ us,KeysOf f us
theorem Di.srt {f:Int→Option Value} (h:Di f):SrtOf (srtL f) f:=by
 obtain ⟨hi,us,hu⟩:=h
 have h1:=srt_keys hi hu
 rw [← srtL_eq h1]; exact h1
theorem Di.ofF {f:Int→Option Value} (h:Di f):Chx.ofF (srtL f)=f:=h.srt.2
theorem Di.tk {f:Int→Option Value} (h:Di f) (ht:TkF f):Fu (srtL f):=tk_iff.2 ⟨h.srt.1,by rw [h.ofF]; exact ht⟩
theorem Di.of (l:List (Int × Int)):Di (Chx.ofF l):=by
 refine ⟨I1.of l,?_⟩
 have:∀ l:List (Int × Int),∃ us:List Int,us.Nodup∧∀ x,x∈us↔(Chx.ofF l x).isSome=true:=by
  intro l
  induction l with
  | nil=>exact ⟨[],.nil,fun x=>by simp [Chx.ofF]⟩
  | cons q l ih =>
   obtain ⟨us,h1,h2⟩:=ih
   have e:∀ x,(Chx.ofF (q::l) x).isSome=true↔x=q.1∨(Chx.ofF l x).isSome=true:=fun x=>by
    unfold Chx.ofF
    rw [List.lookup_cons]
    by_cases h:x=q.1
    ·subst h; simp
    ·have:(x == q.1)=false:=by simpa using h
     rw [this]; simp [h]
   by_cases hq:q.1∈us
   ·refine ⟨us,h1,fun x=>?_⟩
    rw [e,← h2]
    constructor
    ·exact .inr
    ·rintro (rfl | h)
     ·exact hq
     ·exact h
   ·refine ⟨q.1::us,List.nodup_cons.2 ⟨hq,h1⟩,fun x=>?_⟩
    rw [e,← h2,List.mem_cons]
 exact this l
theorem Di.del {f:Int→Option Value} (h:Di f) (ks:List Int):Di (delK f ks):=by
 obtain ⟨hi,us,h1,h2⟩:=h
 refine ⟨hi.del ks,us.filter (fun x=>decide (x∉ks)),h1.filter _,fun x=>?_⟩
 rw [List.mem_filter,h2]
 unfold delK
 by_cases hx:x∈ks
 ·simp [hx]
 ·simp [hx]
theorem Di.put {f:Int→Option Value} (h:Di f) (k p:Int):Di (Ft f k (iv p)):=by
 obtain ⟨hi,us,h1,h2⟩:=h
 refine ⟨hi.put k p,?_⟩
 have e:∀ x,(Ft f k (iv p) x).isSome=true↔x=k∨(f x).isSome=true:=fun x=>by
  unfold Ft; by_cases h:x=k <;> simp [h]
 by_cases hq:k∈us
 ·refine ⟨us,h1,fun x=>?_⟩
  rw [e,← h2]
  constructor
  ·exact .inr
  ·rintro (rfl | h)
   ·exact hq
   ·exact h
 ·refine ⟨k::us,List.nodup_cons.2 ⟨hq,h1⟩,fun x=>?_⟩
  rw [e,← h2,List.mem_cons]
theorem Di.puts:∀ (qs:List (Int × Int)) {f:Int→Option Value},Di f→Di (Jz f qs)
 | [],_,h=>h
 | q::qs,_,h=>Di.puts qs (h.put q.1 q.2)
theorem Di.ch (l:List (Int × Int)) (d:Int):Di (chF l d):=(Di.of l).del _
theorem Di.st (l:List (Int × Int)) (d p:Int):Di (stF l d p):=(Di.ch l d).put _ _
theorem Di.rn (l:List (Int × Int)) (d:Int) (ps:List Int):Di (rnF l d ps):=Di.puts _ (Di.ch l d)
theorem rm_tree {l:List (Int × Int)} {d:Int} (h:Ie l d true):Fu (rmL l d)∧ofF (rmL l d)=chF l d:=by
 have hd:=Bu.1 h.2.1
 unfold rmL
 rw [if_pos h]
 exact ⟨(Di.ch l d).tk ((tk_iff.1 h.1).2.del hd),(Di.ch l d).ofF⟩
theorem se_tree {l:List (Int × Int)} {d p:Int} (h:Ie l d false) (hp:el p=true):Fu (seL l d p)∧ofF (seL l d p)=stF l d p:=by
 have hd:=Bu.1 h.2.1
 unfold seL
 rw [if_pos h]
 exact ⟨(Di.st l d p).tk (((tk_iff.1 h.1).2.del hd).put hd hp),(Di.st l d p).ofF⟩
def lfB (f:Int→Option Value) (d:Int):Bool:=(f (512+d)).isSome
theorem chF_leaf {l:List (Int × Int)} {d m:Int} (hd:0≤d∧d < 512) (hm:0≤m∧m < 512):lfB (chF l d) m=if m=d then false else lfB (ofF l) m:=by
 unfold lfB chF delK
 by_cases h:m=d
 ·subst h; rw [if_pos (upK_self m),if_pos rfl]; rfl
 ·rw [if_neg h,if_neg]
  intro hx
  have:=(upK_mem hd hx).2.2 (by omega)
  omega
theorem stF_leaf {l:List (Int × Int)} {d m p:Int} (hd:0≤d∧d < 512) (hm:0≤m∧m < 512):lfB (stF l d p) m=if m=d then true else lfB (ofF l) m:=by
 have h1:=chF_leaf (l:=l) hd hm
 unfold lfB at h1 ⊢
 unfold stF Ft
 by_cases h:m=d
 ·subst h; rw [if_pos rfl,if_pos rfl]; rfl
 ·rw [if_neg (by omega),if_neg h,h1,if_neg h]
theorem putsF_get {x:Int}:∀ (qs:List (Int × Int)) {f:Int→Option Value},x∉qs.map (·.1)→Jz f qs x=f x
 | [],_,_=>rfl
 | q::qs,f,h=>by
  show Jz (Ft f q.1 (iv q.2)) qs x=_
  rw [putsF_get qs (fun h1=>h (.tail _ h1))]
  unfold Ft
  rw [if_neg (fun e=>h (by rw [e]; exact .head _))]
def lfN (l:List (Int × Int)) (zs:List Chg) (m:Int):Bool:=match zs.find? (fun y=>decide (y.d=m)) with | some y=>decide (y.k≠2) | none=>lfB (ofF l) m
theorem rn_ok {l:List (Int × Int)} {xs:List Chg} (ht:Fu l) (hf:FmP xs) (hm:∀ x∈xs,x.k=2→lfB (ofF l) x.d=true) :
  ∀ i,i≤xs.length→Fu (Hh l (xs.take i))∧∀ m,0≤m∧m < 512→lfB (ofF (Hh l (xs.take i))) m=lfN l (xs.take i) m
 | 0,_=>⟨ht,fun _ _=>rfl⟩
 | i+1,hi=>by
  obtain ⟨h1,h2⟩:=rn_ok ht hf hm i (by omega)
  obtain ⟨x,hx⟩:∃ x,xs[i]? = some x:=⟨_,List.getElem?_eq_getElem (by omega)⟩
  have hxm:=List.mem_of_getElem? hx
  have hd:=Bu.1 (hf.1 x hxm).2
  have hnew:=hf.met hx
  have hno:(xs.take i).find? (fun y=>decide (y.d=x.d))=none:=by
   rw [List.find?_eq_none]
   intro y hy
   simp only [decide_eq_true_eq]
   intro e
   exact hnew (e ▸ List.mem_map.2 ⟨y,hy,Z⟩)
  have hfind:∀ m,((xs.take i)++[x]).find? (fun y=>decide (y.d=m))=if x.d=m then some x else (xs.take i).find? (fun y=>decide (y.d=m)):=fun m=>by
   rw [List.find?_append]
   by_cases h:x.d=m
   ·subst h; rw [hno,if_pos rfl]; simp
   ·rw [if_neg h]
    have:[x].find? (fun y=>decide (y.d=m))=none:=by simp [h]
    rw [this,Option.or_none]
  rw [A7 hx,rnL_snoc]
  unfold rnS
  by_cases hk:x.k=2
  ·rw [if_pos hk]
   have hc:Ie (Hh l (xs.take i)) x.d true:=⟨h1,(hf.1 x hxm).2,fun _=>by
    have h3:=h2 x.d hd
    unfold lfN at h3
    rw [hno] at h3
    exact h3.trans (hm x hxm hk)⟩
   obtain ⟨h3,h4⟩:=rm_tree hc
   refine ⟨h3,fun m hmm=>?_⟩
   rw [h4,chF_leaf hd hmm,h2 m hmm]
   unfold lfN
   rw [hfind]
   by_cases h:x.d=m
   ·rw [if_pos h.symm,if_pos h]; simp [hk]
   ·rw [if_neg (fun e=>h e.symm),if_neg h]
  ·rw [if_neg hk]
   obtain ⟨h3,h4⟩:=se_tree (d:=x.d) (p:=x.p) ⟨h1,(hf.1 x hxm).2,fun h=>by cases h⟩ (hf.el x hxm hk)
   refine ⟨h3,fun m hmm=>?_⟩
   rw [h4,stF_leaf hd hmm,h2 m hmm]
   unfold lfN
   rw [hfind]
   by_cases h:x.d=m
   ·rw [if_pos h.symm,if_pos h]; simp [hk]
   ·rw [if_neg (fun e=>h e.symm),if_neg h]
theorem mHas_iff {ms:List Mb} {d:Int}:Gu ms d=true↔d∈ms.map (·.d):=by
 unfold Gu
 rw [List.any_eq_true,List.mem_map]
 simp
theorem Kt.mem {g:Gp} (h:Kt g) {d:Int}:Gu g.ms d=true↔0≤d∧d < 512∧lfB (ofF g.tr.l) d=true:=by
 have h1:=eqF_map (Ec h)
 rw [mHas_iff,h1,memL_iff]
 unfold lfB
 rw [ofF_some]
 have hs:=tk_srt (Dw h)
 constructor
 ·rintro ⟨h2,h3,p,hp⟩; exact ⟨h2,h3,p,(ofF_mem hs).2 hp⟩
 ·rintro ⟨h2,h3,p,hp⟩; exact ⟨h2,h3,p,(ofF_mem hs).1 hp⟩
structure PsP (g:Gp) (a:Int) (xs:List Chg):Prop where
 own:Gu g.ms a=decide (g.epoch > 0)
 fst:g.epoch=0→∃ x t,xs=x::t∧x.d=a
 kin:∀ x∈xs,Gu g.ms x.d = !decide (x.k=1)
 oth:Gu g.ms a=true→∀ x∈xs,x.d≠a
theorem G9 {g:Gp} {a:Int} {xs:List Chg}:psB g a xs=true↔PsP g a xs:=by
 unfold psB
 rw [Bool.and_eq_true,Bool.and_eq_true,Bool.not_eq_true',Bool.not_eq_true',List.any_eq_false]
 constructor
 ·rintro ⟨⟨h1,h2⟩,h3⟩
  refine ⟨by simpa using h1,fun he=>?_,fun x hx=>?_,fun ho x hx=>?_⟩
  ·rw [decide_eq_true he,Bool.true_and] at h2
   cases xs with
   | nil=>cases h2
   | cons x t=>exact ⟨x,t,rfl,by simpa using h2⟩
  ·have:=h3 x hx
   unfold wrB at this
   cases h4:Gu g.ms x.d <;> cases h5:decide (x.k=1) <;> simp_all
  ·have:=h3 x hx
   unfold wrB at this
   intro e
   apply this
   simp [ho,e]
 ·intro h
  refine ⟨⟨by rw [h.own]; simp,?_⟩,fun x hx=>?_⟩
  ·by_cases he:g.epoch=0
   ·obtain ⟨x,t,e,hx⟩:=h.fst he
    subst e
    simp [hx]
   ·simp [he]
  ·unfold wrB
   rw [h.kin x hx]
   intro hc
   rw [Bool.or_eq_true] at hc
   rcases hc with hc | hc
   ·cases h5:decide (x.k=1) <;> rw [h5] at hc <;> cases hc
   ·rw [Bool.and_eq_true] at hc
    exact h.oth hc.1 x hx (by simpa using hc.2)
theorem FmP.kind {xs:List Chg} (h:FmP xs):∀ x∈xs,x.k=1∨x.k=2∨x.k=3:=fun x hx=>by
 have:=(h.1 x hx).1
 unfold okB at this
 by_cases h1:x.k=1
 ·exact .inl h1
 ·by_cases h2:x.k=2
  ·exact .inr (.inl h2)
  ·by_cases h3:x.k=3
   ·exact .inr (.inr h3)
   ·rw [if_neg h1,if_neg h2,if_neg h3] at this; cases this
theorem new_tree {g:Gp} {a:Int} {xs:List Chg} (hv:Kt g) (hf:FmP xs) (hp:PsP g a xs):Fu (Hh g.tr.l xs)∧∀ m,0≤m∧m < 512→lfB (ofF (Hh g.tr.l xs)) m=lfN g.tr.l xs m:=by
 have h:=rn_ok (l:=g.tr.l) (xs:=xs) hv.2.2.2.2.1 hf (fun x hx hk=>(hv.mem.1 (by rw [hp.kin x hx]; simp [hk])).2.2) xs.length (Nat.le_refl _)
 rw [List.take_length] at h
 exact h
theorem new_auth {g:Gp} {a:Int} {xs:List Chg} (hv:Kt g) (hf:FmP xs) (hp:PsP g a xs):Eo a=true∧lfN g.tr.l xs a=true:=by
 by_cases he:g.epoch=0
 ·obtain ⟨x,t,e,hx⟩:=hp.fst he
  have hxm:x∈xs:=by rw [e]; exact .head _
  have hno:g.ms=[]:=(hv.2.2.2.2.2.1 he).1
  have hk:=hp.kin x hxm
  rw [hno] at hk
  have hk1:x.k=1:=by
   have h2:(false:Bool) = !decide (x.k=1):=hk
   by_cases h3:x.k=1
   ·exact h3
   ·simp [h3] at h2
  refine ⟨hx ▸ (hf.1 x hxm).2,?_⟩
  unfold lfN
  rw [e,List.find?_cons_of_pos (by simpa using hx)]
  simp [hk1]
 ·have ho:Gu g.ms a=true:=by rw [hp.own]; have:=hv.2.2.1; simp; omega
  obtain ⟨h1,h2,h3⟩:=hv.mem.1 ho
  refine ⟨Bu.2 ⟨h1,h2⟩,?_⟩
  unfold lfN
  have:xs.find? (fun y=>decide (y.d=a))=none:=by
   rw [List.find?_eq_none]
   intro y hy
   simpa using hp.oth ho y hy
  rw [this]; exact h3
theorem new_ch {g:Gp} {a:Int} {xs:List Chg} (hv:Kt g) (hf:FmP xs) (hp:PsP g a xs):Ie (Hh g.tr.l xs) a true:=by
 obtain ⟨h1,h2⟩:=new_tree hv hf hp
 obtain ⟨h3,h4⟩:=new_auth hv hf hp
 exact ⟨h1,h3,fun _=>by have:=h2 a (Bu.1 h3); rw [h4] at this; exact this⟩
theorem rsL_fit {f:Int→Option Value}:∀ (h k:Nat) (n:Int),512≤n*2 ^ h→(rsL f k n).length≤2 ^ h
 | h,0,n,_=>by rw [rsL]; have:=Nat.two_pow_pos h; split <;> simp <;> omega
 | 0,k+1,n,hn=>by
  rw [rsL]
  split
  ·simp
  ·rw [if_pos (by simpa using hn)]; simp
 | h+1,k+1,n,hn=>by
  have e:(2:Int) ^ (h+1)=2 ^ h*2:=Int.pow_succ ..
  have hp:(0:Int) < 2 ^ h:=Int.pow_pos (by decide)
  have h1:=rsL_fit (f:=f) h k (2*n) (by rw [e] at hn; rw [Int.mul_comm 2 n,Int.mul_assoc,Int.mul_comm 2]; exact hn)
  have h2:=rsL_fit (f:=f) h k (2*n+1) (by rw [e] at hn; rw [Int.add_mul,Int.mul_comm 2 n,Int.mul_assoc,Int.mul_comm 2]; omega)
  have h3:=Nat.two_pow_pos h
  rw [rsL]
  split
  ·simp only [List.length_singleton,Nat.pow_succ]; omega
  ·split
   ·simp
   ·rw [List.length_append,Nat.pow_succ]; omega
theorem rsL_mem {f:Int→Option Value}:∀ (k:Nat) (n x:Int),x∈rsL f k n→(f x).isSome=true
 | 0,n,x,h=>by
  rw [rsL] at h
  split at h
  ·rename_i h1; rw [List.mem_singleton.1 h]; exact h1
  ·cases h
 | k+1,n,x,h=>by
  rw [rsL] at h
  split at h
  ·rename_i h1; rw [List.mem_singleton.1 h]; exact h1
  ·split at h
   ·cases h
   ·rcases List.mem_append.1 h with h | h
    ·exact rsL_mem k _ x h
    ·exact rsL_mem k _ x h
theorem ups_at:∀ (i n x:Nat),(ups n)[i]? = some x→x=n / 2 ^ i∧2≤x
 | 0,n,x,h=>by
  rcases Nat.lt_or_ge 1 n with h1 | h1
  ·rw [ups_gt h1] at h; simp at h; subst h; exact ⟨by simp,by omega⟩
  ·rw [ups_le h1] at h; simp at h
 | i+1,n,x,h=>by
  rcases Nat.lt_or_ge 1 n with h1 | h1
  ·rw [ups_gt h1,List.getElem?_cons_succ] at h
   have:=ups_at i (n / 2) x h
   rw [Nat.div_div_eq_div_mul,← Nat.pow_succ'] at this
   exact this
  ·rw [ups_le h1] at h; simp at h
theorem xor_one (n:Nat):n ^^^ 1=if n % 2=0 then n+1 else n-1:=by
 have h1:(n ^^^ 1) / 2=n / 2:=by
  have:=Nat.xor_div_two (a:=n) (b:=1)
  rw [this]; simp
 have h2:(n ^^^ 1) % 2=(n+1) % 2:=by
  have:=Nat.xor_mod_two_pow (a:=n) (b:=1) (n:=1)
  simp only [Nat.pow_one] at this
  rw [this]
  rcases Nat.mod_two_eq_zero_or_one n with h | h
  ·have e:n % 2 ^^^ 1 % 2=1:=by rw [h]; decide
   rw [e]; omega
  ·have e:n % 2 ^^^ 1 % 2=0:=by rw [h]; decide
   rw [e]; omega
 split <;> omega
theorem sib_at {d:Int} (hd:Eo d=true) {i:Nat} {x:Int} (h:(Dz d Ff)[i]? = some x):i < 9∧512≤x*2 ^ i∧1≤x∧x < 1024∧x=(((512+d.toNat) / 2 ^ i ^^^ 1:Nat):Int):=by
 have hl:=alL_nine (q:=Ff) hd
 have hi:=(List.getElem?_eq_some_iff.1 h).1
 have hd2:=Bu.1 hd
 unfold Dz at h
 rw [if_pos hd,List.getElem?_map] at h
 obtain ⟨n,hn,rfl⟩:=Option.map_eq_some_iff.1 h
 obtain ⟨e,h2⟩:=ups_at i _ n hn
 rw [hl] at hi
 unfold Ff
 rw [xor_one,← e]
 refine ⟨hi,?_,?_,?_,by rw [xor_one]⟩
 all_goals
  have hb:n*2 ^ i≤512+d.toNat∧512+d.toNat < (n+1)*2 ^ i:=by
   subst e
   exact ⟨Nat.div_mul_le_self _ _,by rw [Nat.add_mul,Nat.one_mul,Nat.mul_comm]; exact Nat.lt_mul_div_succ _ (Nat.two_pow_pos i)⟩
  rcases (show i=0∨i=1∨i=2∨i=3∨i=4∨i=5∨i=6∨i=7∨i=8 by omega) with rfl | rfl | rfl | rfl | rfl | rfl | rfl | rfl | rfl
  all_goals simp only [Nat.reducePow,Int.reducePow] at hb ⊢
  all_goals split <;> omega
theorem ndB_len {l:List (Int × Int)} {d:Int} (hd:Eo d=true) {q:Int × Nat} (hq:q∈(Dz d Ff).zipIdx):(ndB l q).length≤2 ^ q.2∧q.2 < 9:=by
 have h1:=List.mem_zipIdx_iff_getElem?.1 hq
 obtain ⟨h2,h3,_⟩:=sib_at hd h1
 refine ⟨?_,h2⟩
 unfold ndB
 rw [List.length_map]
 unfold rvL
 split
 ·exact rsL_fit _ _ _ h3
 ·exact Nat.zero_le _
theorem fm_bound {α β:Type} {f:α→List β} {w:α→Nat}:∀ {zs:List α},(∀ z∈zs,(f z).length≤w z)→(zs.flatMap f).length≤(zs.map w).sum
 | [],_=>by simp
 | z::zs,h=>by
  rw [List.flatMap_cons,List.length_append,List.map_cons,List.sum_cons]
  exact Nat.add_le_add (h z (.head _)) (fm_bound fun y hy=>h y (.tail _ hy))
theorem zip_pow:∀ (zs:List Int) (k n:Nat),zs.length=n→((zs.zipIdx k).map fun q=>2 ^ q.2).sum+2 ^ k=2 ^ (k+n)
 | [],k,n,h=>by subst h; simp
 | z::zs,k,n,h=>by
  subst h
  rw [List.zipIdx_cons,List.map_cons,List.sum_cons]
  have:=zip_pow zs (k+1) zs.length rfl
  rw [Nat.pow_succ] at this
  rw [List.length_cons,show k+(zs.length+1)=k+1+zs.length from by omega,← this]
  dsimp only
  omega
theorem ndL_511 {l:List (Int × Int)} {d:Int} (hd:Eo d=true):(ndL l d).length≤511:=by
 unfold ndL
 have h1:=fm_bound (f:=ndB l) (w:=fun q=>2 ^ q.2) (zs:=(Dz d Ff).zipIdx) fun q hq=>(ndB_len hd hq).1
 have h2:=zip_pow (Dz d Ff) 0 9 (alL_nine hd)
 simp only [Nat.zero_add,Nat.pow_zero] at h2
 omega
theorem ndL_mem {l:List (Int × Int)} {d:Int} (hd:Eo d=true) (ht:Fu l) {q:Int × Int} (hq:q∈ndL l d):1≤q.1∧q.1≤9∧1≤q.2∧q.2 < 1024∧∃ p,ofF l q.2=some (iv p)∧el p=true:=by
 unfold ndL at hq
 obtain ⟨z,hz,h1⟩:=List.mem_flatMap.1 hq
 have h2:=(ndB_len (l:=l) hd hz).2
 unfold ndB at h1
 obtain ⟨n,hn,rfl⟩:=List.mem_map.1 h1
 unfold rvL at hn
 split at hn
 ·have h3:=rsL_mem _ _ _ hn
  obtain ⟨p,hp⟩:=ofF_some.1 h3
  obtain ⟨h4,h5,h6,_⟩:=(tk_iff.1 ht).2 n p hp
  exact ⟨by simp only; omega,by simp only; omega,h4,by simp only; omega,p,hp,h6⟩
 ·cases hn
end Go.Chx
namespace Go.Chx
open Go
theorem cm_size {c:Cm} (hok:okL (Cb c)) {B:Nat} (hb:∀ x∈c.bx,x.b.length≤B) (hw:∀ x∈c.wl,x.b.length≤B) :
  (enc (.list (Cb c))).length≤300+c.ch.length*66+c.path.length*11+c.bx.length*(55+B)+c.wl.length*(44+B):=by
 have h0:(Val.list (Cb c)).ok:=by
  have e:(Cb c).length=11:=rfl
  simp only [Val.ok]; exact ⟨by rw [e]; decide,hok⟩
 have h1:=enc_size _ h0
 have h2:=Jc (f:=chgV) (k:=66) (xs:=c.ch) fun x _=>by simp [chgV,vsz,Ih]
 have h3:=Jc (f:=Val.int) (k:=11) (xs:=c.path) fun x _=>by simp [vsz]
 have h4:=Jc (f:=bxxV) (k:=55+B) (xs:=c.bx) fun x hx=>by have:=hb x hx; simp only [bxxV,vsz,Ih]; omega
 have h5:=Jc (f:=J5) (k:=44+B) (xs:=c.wl) fun x hx=>by have:=hw x hx; simp only [J5,vsz,Ih]; omega
 have h6:=c.parent.h
 have h7:=c.confirm.h
 have h8:vsz (.list (Cb c))=11+(11+(11+(11+c.parent.b.length+(11+(11+Ih (c.ch.map chgV)+(11+Ih (c.path.map Val.int)+(11+Ih (c.bx.map bxxV)+(11+Ih (c.wl.map J5)+(11+c.confirm.b.length+(11+(11+0)))))))))))  := by
  simp only [vsz,Cb,Ih]
 rw [h8] at h1
 omega
structure CmI (c:Cm) (B:Nat):Prop where
 fo:i64 c.folder
 ep:i64 c.epoch
 au:i64 c.author
 sr:i64 c.sr
 ss:i64 c.ss
 ch:∀ x∈c.ch,i64 x.k∧i64 x.d∧i64 x.p∧i64 x.v∧i64 x.c
 path:∀ x∈c.path,i64 x
 bx:∀ x∈c.bx,i64 x.n∧i64 x.lv∧i64 x.u∧x.b.length≤B
 wl:∀ x∈c.wl,i64 x.d∧i64 x.u∧x.b.length≤B
theorem CmI.okL {c:Cm} {B:Nat} (h:CmI c B) (hB:B≤1000000) (hb:CmB c):okL (Cb c):=by
 have l1:=hb.h1
 have l2:=hb.h2
 have l3:=hb.h3
 have l4:=hb.h4
 have p1:=c.parent.h
 have p2:=c.confirm.h
 refine okL_of fun v hv=>?_
 simp only [Cb,List.mem_cons,List.not_mem_nil,or_false] at hv
 rcases hv with rfl | rfl | rfl | rfl | rfl | rfl | rfl | rfl | rfl | rfl | rfl
 ·simp only [Val.ok]; exact h.fo
 ·simp only [Val.ok]; exact h.ep
 ·simp only [Val.ok]; omega
 ·simp only [Val.ok]; exact h.au
 ·simp only [Val.ok,List.length_map]
  refine ⟨by omega,okL_of fun v hv=>?_⟩
  obtain ⟨x,hx,rfl⟩:=List.mem_map.1 hv
  obtain ⟨h1,h2,h3,h4,h5⟩:=h.ch x hx
  simp only [chgV,Val.ok,Chg.ints,List.map_cons,List.map_nil,List.length_cons,List.length_nil,Chx.okL]
  exact ⟨by omega,h1,h2,h3,h4,h5,tR⟩
 ·simp only [Val.ok,List.length_map]
  refine ⟨by omega,okL_of fun v hv=>?_⟩
  obtain ⟨x,hx,rfl⟩:=List.mem_map.1 hv
  simp only [Val.ok]; exact h.path x hx
 ·simp only [Val.ok,List.length_map]
  refine ⟨by omega,okL_of fun v hv=>?_⟩
  obtain ⟨x,hx,rfl⟩:=List.mem_map.1 hv
  obtain ⟨h1,h2,h3,h4⟩:=h.bx x hx
  simp only [bxxV,Val.ok,List.length_cons,List.length_nil,Chx.okL]
  exact ⟨by omega,h1,h2,h3,by omega,tR⟩
 ·simp only [Val.ok,List.length_map]
  refine ⟨by omega,okL_of fun v hv=>?_⟩
  obtain ⟨x,hx,rfl⟩:=List.mem_map.1 hv
  obtain ⟨h1,h2,h3⟩:=h.wl x hx
  simp only [J5,Val.ok,List.length_cons,List.length_nil,Chx.okL]
  exact ⟨by omega,h1,h2,by omega,tR⟩
 ·simp only [Val.ok]; omega
 ·simp only [Val.ok]; exact h.sr
 ·simp only [Val.ok]; exact h.ss
theorem CmI.ok {c:Cm} {B:Nat} (h:CmI c B) (hB:B≤1000) (hb:CmB c):CmOk c:=by
 have h1:=h.okL (by omega) hb
 refine ⟨hb,h1,?_⟩
 have h2:=cm_size h1 (fun x hx=>(h.bx x hx).2.2.2) (fun x hx=>(h.wl x hx).2.2)
 have l1:=hb.h1
 have l2:=hb.h2
 have l3:=hb.h3
 have l4:=hb.h4
 have l5:c.bx.length*(55+B)≤100000*1055:=Nat.mul_le_mul l3 (by omega)
 have l6:c.wl.length*(44+B)≤1000*1044:=Nat.mul_le_mul l4 (by omega)
 omega
def wcS (a:Int) (ch:List Chg):List Chg:=(wcF a ch).mergeSort fun x y=>decide (x.d≤y.d)
theorem Kc (a:Int) (ch:List Chg):(wcS a ch).Perm (wcF a ch):=List.mergeSort_perm _ _
theorem wcS_sorted (a:Int) (ch:List Chg):(wcS a ch).Pairwise fun x y=>x.d≤y.d:=by
 have:=List.pairwise_mergeSort (le:=fun x y:Chg=>decide (x.d≤y.d)) (fun a b c h1 h2=>by simp at *; omega) (fun a b=>by simp; omega) (wcF a ch)
 exact this.imp fun h=>by simpa using h
theorem wcF_sub (a:Int) (ch:List Chg):(wcF a ch).Sublist ch:=List.filter_sublist
theorem wcS_nodup {a:Int} {ch:List Chg} (h:FmP ch):((wcS a ch).map (·.d)).Nodup :=
 ((Kc a ch).map _).nodup_iff.2 (((wcF_sub a ch).map _).nodup h.2.1)
theorem wcS_mem {a:Int} {ch:List Chg} {x:Chg}:x∈wcS a ch↔x∈ch∧x.k≠2∧x.d≠a:=by
 rw [(Kc a ch).mem_iff]
 unfold wcF wcB
 rw [List.mem_filter]
 simp
theorem wcS_strict {a:Int} {ch:List Chg} (h:FmP ch):((wcS a ch).map (·.d)).Pairwise (· < ·):=by
 have h1:=wcS_sorted a ch
 have h2:=wcS_nodup (a:=a) h
 have h3:((wcS a ch).map (·.d)).Pairwise (·≤·):=by rw [List.pairwise_map]; exact h1
 exact (h3.and (List.nodup_iff_pairwise_ne.1 h2)).imp fun ⟨h4,h5⟩=>by show _ < _; omega
theorem wcS_len (a:Int) (ch:List Chg):(wcS a ch).length≤ch.length:=by
 rw [(Kc a ch).length_eq]; exact (wcF_sub a ch).length_le
theorem wcS_eq {a:Int} {ch ys:List Chg} (h:FmP ch) (hp:ys.Perm (wcF a ch)) (hs:ys.Pairwise fun a b=>a.d≤b.d):ys=wcS a ch:=by
 refine (hp.trans (Kc a ch).symm).eq_of_pairwise (fun x y hx hy h1 h2=>?_) hs (wcS_sorted a ch)
 have hx:=(wcS_mem.1 ((hp.trans (Kc a ch).symm).mem_iff.1 hx)).1
 have hy:=(wcS_mem.1 hy).1
 obtain ⟨i,hi⟩:=List.mem_iff_getElem?.1 hx
 obtain ⟨j,hj⟩:=List.mem_iff_getElem?.1 hy
 have e:x.d=y.d:=by omega
 have hn:=h.2.1
 have h3:(ch.map (·.d))[i]? = some x.d:=by rw [List.getElem?_map,hi]; rfl
 have h4:(ch.map (·.d))[j]? = some x.d:=by rw [List.getElem?_map,hj,e]; rfl
 have hil:=(List.getElem?_eq_some_iff.1 h3).1
 have:=(List.getElem?_inj hil hn).1 (h3.trans h4.symm)
 subst this
 rw [hi] at hj; cases hj; rfl
open Classical in
noncomputable def mdE (g:Gp) (a priv:Int) (ch:List Chg):Int :=
 if g.epoch≥1099511627776 then 1 else if ndE g a ch≠0 then ndE g a ch else if puE priv≠0 then puE priv else if puV priv≠vkI g a ch then 221 else 0
structure Mk0 (g:Gp) (a:Int) (ch:List Chg) (leaf:Dig) (c:Cm):Prop where
 fo:c.folder=g.folder
 ep:c.epoch=g.epoch+1
 pa:c.parent=g.last
 au:c.author=a
 chs:c.ch=ch
 path:c.path=(Ef leaf).map fun s=>Iz (Fm s)
 bl:c.bx.length=(Hw g a ch).length
 bx:∀ (i:Nat) x y,c.bx[i]? = some x→(Hw g a ch)[i]? = some y→x.n=y.n∧x.lv=y.lv∧el x.u=true∧x.b.length=48
 wl:c.wl.map (·.d)=(wcS a ch).map (·.d)
 wb:∀ x∈c.wl,el x.u=true∧x.b.length=48
structure Mk (g:Gp) (a priv:Int) (ch:List Chg) (leaf:Dig) (c:Cm):Prop extends Mk0 g a ch leaf c where
 sr:c.sr=signR priv (Hq c).b
 ss:c.ss=signS priv (Hq c).b
structure MkOk (g:Gp) (a priv:Int) (ch:List Chg):Prop where
 e:g.epoch < 1099511627776
 v:Kt g
 f:FmP ch
 p:psB g a ch=true
 k:kv priv=true
 s:Iz priv=vkI g a ch
theorem mdE_iff {g:Gp} {a priv:Int} {ch:List Chg}:mdE g a priv ch=0↔MkOk g a priv ch:=by
 unfold mdE
 constructor
 ·intro h
  split at h
  ·cases h
  ·rename_i h1
   split at h
   ·rename_i h2; exact absurd h h2
   ·rename_i h2
    split at h
    ·rename_i h3; exact absurd h h3
    ·rename_i h3
     split at h
     ·cases h
     ·rename_i h4
      obtain ⟨hv,hf,hp⟩:=ndE_ok (Classical.not_not.1 h2)
      have hk:kv priv=true:=by
       by_cases hk:kv priv=true
       ·exact hk
       ·exfalso; apply h3; unfold puE; rw [if_neg hk]; decide
      refine ⟨by omega,hv,hf,hp,hk,?_⟩
      have:=Classical.not_not.1 h4
      rw [← this]; unfold puV; rw [if_pos hk]
 ·intro h
  rw [if_neg (by have:=h.e; omega),if_neg (fun k=>k (nd_3 h.v h.f h.p).1),if_neg (fun k=>k (by unfold puE; rw [if_pos h.k])),if_neg (fun k=>k (by unfold puV; rw [if_pos h.k]; exact h.s))]
theorem bx_i64 {p:Int} (h:el p=true):i64 p:=by have:=Gh.1 h; unfold i64; omega
section
variable {g:Gp} {a priv:Int} {ch:List Chg} {leaf:Dig} {c:Cm}
theorem nd_at (h:MkOk g a priv ch):Hw g a ch=(ndL (Hh g.tr.l ch) a).map nbx:=(nd_3 h.v h.f h.p).2
theorem nd_len (h:MkOk g a priv ch):(Hw g a ch).length≤511:=by
 rw [nd_at h,List.length_map]
 exact ndL_511 (new_auth h.v h.f (G9.1 h.p)).1
theorem nd_in (h:MkOk g a priv ch) {y:Bxx} (hy:y∈Hw g a ch):1≤y.lv∧y.lv≤9∧1≤y.n∧y.n < 1024∧∃ p,ofF (Hh g.tr.l ch) y.n=some (iv p)∧el p=true:=by
 rw [nd_at h] at hy
 obtain ⟨q,hq,rfl⟩:=List.mem_map.1 hy
 exact ndL_mem (new_auth h.v h.f (G9.1 h.p)).1 (new_tree h.v h.f (G9.1 h.p)).1 hq
theorem Mk0.bxi (m:Mk0 g a ch leaf c) {x:Bxx} (hx:x∈c.bx):∃ y∈Hw g a ch,x.n=y.n∧x.lv=y.lv∧el x.u=true∧x.b.length=48:=by
 obtain ⟨i,hi⟩:=List.mem_iff_getElem?.1 hx
 have hl:=(List.getElem?_eq_some_iff.1 hi).1
 rw [m.bl] at hl
 exact ⟨_,List.getElem_mem hl,m.bx i x _ hi (List.getElem?_eq_getElem hl)⟩
theorem Mk0.wll (m:Mk0 g a ch leaf c):c.wl.length=(wcS a ch).length:=by have:=congrArg List.length m.wl; simpa using this
theorem Mk0.ck (m:Mk0 g a ch leaf c) (h:MkOk g a priv ch):CkP c where
 f0:=m.fo ▸ h.v.1
 f1:=m.fo ▸ h.v.2.1
 e0:=by rw [m.ep]; have:=h.v.2.2.1; omega
 e1:=by rw [m.ep]; have:=h.e; omega
 au:=by rw [m.au]; exact (new_auth h.v h.f (G9.1 h.p)).1
 fm:=m.chs ▸ h.f
 pl:=by rw [m.path,List.length_map,Ji]
 bl:=by rw [m.bl]; have:=nd_len h; omega
 wl:=by rw [m.wll]; have:=wcS_len a ch; have:=h.f.2.2; omega
 pe:=fun p hp=>by
  rw [m.path] at hp
  obtain ⟨s,_,rfl⟩:=List.mem_map.1 hp
  exact baV_el (inQ_kv (kv_scal _ _))
 be:=fun x hx=>by
  obtain ⟨y,hy,h1,h2,h3,h4⟩:=m.bxi hx
  obtain ⟨k1,k2,k3,k4,_⟩:=nd_in h hy
  unfold bxB wpB
  rw [h1,h2,h3,h4]
  simp [k1,k2,k3,k4]
 we:=fun i hi=>by
  have hx:=List.getElem?_eq_getElem hi
  obtain ⟨h1,h2⟩:=m.wb _ (List.getElem_mem hi)
  have hd:∀ {j:Nat} {x:Wlc},c.wl[j]? = some x→((wcS a ch).map (·.d))[j]? = some x.d:=fun {j x} hj=>by rw [← m.wl,List.getElem?_map,hj]; rfl
  have hm:=hd hx
  refine ⟨_,hx,?_,by unfold wpB; rw [h1,h2]; decide,fun p hp0 hp=>?_⟩
  ·have:=List.mem_of_getElem? hm
   obtain ⟨y,hy,e⟩:=List.mem_map.1 this
   rw [← e]
   exact (h.f.1 y (wcS_mem.1 hy).1).2
  ·have hp2:=hd hp
   have hs:=wcS_strict (a:=a) h.f
   rw [List.pairwise_iff_getElem] at hs
   obtain ⟨q1,q2⟩:=List.getElem?_eq_some_iff.1 hp2
   obtain ⟨r1,r2⟩:=List.getElem?_eq_some_iff.1 hm
   have:=hs (i-1) i q1 r1 (by omega)
   rw [q2,r2] at this
   exact this
theorem Mk0.cmb (m:Mk0 g a ch leaf c) (h:MkOk g a priv ch):CmB c:=by
 have hc:=m.ck h
 exact ⟨by have:=hc.fm.2.2; omega,by rw [hc.pl]; omega,by have:=hc.bl; omega,by have:=hc.wl; omega⟩
theorem FmP.i64 {xs:List Chg} (h:FmP xs):∀ x∈xs,i64 x.k∧i64 x.d∧i64 x.p∧i64 x.v∧i64 x.c:=fun x hx=>by
 obtain ⟨h1,h2⟩:=h.1 x hx
 have hd:=Bu.1 h2
 unfold okB kyB cuB at h1
 have hk:=h.kind x hx
 rcases hk with hk | hk | hk
 ·rw [if_pos hk,Bool.and_eq_true,Bool.and_eq_true] at h1
  have e1:=Gh.1 h1.1.1
  have e2:=Gh.1 h1.1.2
  have e3:x.c=0:=by simpa using h1.2
  unfold Chx.i64; omega
 ·rw [if_neg (by omega),if_pos hk] at h1
  simp only [Bool.and_eq_true,decide_eq_true_eq] at h1
  unfold Chx.i64; omega
 ·rw [if_neg (by omega),if_neg (by omega),if_pos hk] at h1
  simp only [Bool.and_eq_true,decide_eq_true_eq] at h1
  have e1:=Gh.1 h1.1.1
  have e2:=Gh.1 h1.1.2
  unfold Chx.i64; omega
theorem sgn_i64 {x:Int} (msg:List UInt8) (h:kv x=true):i64 (signR x msg)∧i64 (signS x msg):=by
 obtain ⟨k,hh,h1,h2,h3,h4,h5,h6⟩:=sgM_eq (msg:=msg) h
 unfold signR signS
 rw [if_pos h,if_pos h,h6]
 refine ⟨bx_i64 (by unfold sgR; rw [h3]; exact baV_el (Hx h1)),?_⟩
 have:(k+hh*x.toNat % 2305843009213688669) % 2305843009213688669 < 2305843009213688669:=Nat.mod_lt _ (by omega)
 unfold Chx.i64; omega
theorem Mk0.cmi (m:Mk0 g a ch leaf c) (h:MkOk g a priv ch) (h1:i64 c.sr) (h2:i64 c.ss):CmI c 48:=by
 have hc:=m.ck h
 have ha:=Bu.1 hc.au
 refine ⟨?_,?_,?_,h1,h2,hc.fm.i64,fun p hp=>bx_i64 (hc.pe p hp),fun x hx=>?_,fun x hx=>?_⟩
 ·have:=hc.f0; have:=hc.f1; unfold Chx.i64; omega
 ·have:=hc.e0; have:=hc.e1; unfold Chx.i64; omega
 ·unfold Chx.i64; omega
 ·obtain ⟨y,hy,h1,h2,h3,h4⟩:=m.bxi hx
  obtain ⟨k1,k2,k3,k4,_⟩:=nd_in h hy
  rw [h1,h2]
  exact ⟨by unfold Chx.i64; omega,by unfold Chx.i64; omega,bx_i64 h3,by omega⟩
 ·obtain ⟨h1,h2⟩:=m.wb x hx
  have:x.d∈(wcS a ch).map (·.d):=m.wl ▸ List.mem_map_of_mem hx
  obtain ⟨y,hy,e⟩:=List.mem_map.1 this
  have:=Bu.1 (h.f.1 y (wcS_mem.1 hy).1).2
  exact ⟨by unfold Chx.i64; omega,bx_i64 h1,by omega⟩
theorem Mk0.cmok (m:Mk0 g a ch leaf c) (h:MkOk g a priv ch) (h1:i64 c.sr) (h2:i64 c.ss):CmOk c:=(m.cmi h h1 h2).ok (by omega) (m.cmb h)
theorem Mk.cmok (m:Mk g a priv ch leaf c) (h:MkOk g a priv ch):CmOk c:=by
 have hs:=sgn_i64 (Hq c).b h.k
 exact m.toMk0.cmok h (m.sr ▸ hs.1) (m.ss ▸ hs.2)
theorem Mk.next (m:Mk g a priv ch leaf c) (h:MkOk g a priv ch):nxE g c=0:=by
 have hc:=m.toMk0.ck h
 have h345:c.folder=g.folder∧c.epoch=g.epoch+1∧c.parent=g.last:=⟨m.fo,m.ep,m.pa⟩
 have h6:ndE g c.author c.ch=0:=by rw [m.au,m.chs]; exact (nd_3 h.v h.f h.p).1
 have hbb:bbB g c=true:=by
  unfold bbB eqF
  rw [m.au,m.chs,decide_eq_true m.bl,Bool.true_and,List.all_eq_true]
  intro p hp
  obtain ⟨i,hi⟩:=List.mem_iff_getElem?.1 hp
  rw [List.getElem?_zip_eq_some] at hi
  obtain ⟨h1,h2,_⟩:=m.bx i p.1 p.2 hi.1 hi.2
  unfold sbB
  rw [h1,h2]; simp
 have hwl:wlB c=true:=by
  unfold wlB
  rw [m.wl,m.au,m.chs]
  refine decide_eq_true (sorted_unique (((Kc a ch).map _).trans (List.mergeSort_perm _ _).symm) ?_ ?_)
  ·rw [List.pairwise_map]; exact wcS_sorted a ch
  ·have h1:=List.pairwise_mergeSort (le:=fun x y:Int=>decide (x≤y)) (fun a b c h1 h2=>by simp at *; omega) (fun a b=>by simp; omega) ((wcF a ch).map (·.d))
   exact h1.imp fun h=>by simpa using h
 have hsg:verB (vkI g c.author c.ch) (Hq c).b c.sr c.ss=true:=by
  rw [m.au,m.chs,← h.s,m.sr,m.ss]
  exact sign_ver _ h.k
 have hch:Ie (Hh g.tr.l c.ch) c.author true:=by
  rw [m.au,m.chs]; exact new_ch h.v h.f (G9.1 h.p)
 rw [nx7 h.v hc h345 h6 ⟨hbb,hwl⟩ hsg,if_neg (fun k=>k hch)]
end
end Go.Chx
