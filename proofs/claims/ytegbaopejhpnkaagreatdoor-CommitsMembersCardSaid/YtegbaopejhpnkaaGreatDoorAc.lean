/- Part of the proof that the law CommitsMembers holds. -/
import Derived.OrdersIn
import Derived.Test.YtegbaopejhpnkaaGreatDoorAa
import Derived.Test.YtegbaopejhpnkaaGreatDoorAb
namespace Go.Chx
open Go
variable {C:Ctx} {δ:List Deferred} {ρ:Da} {l:List A9} {I:World→Prop} {K:Act→World→Prop} {Q:Exit→Act→World→Prop} {ops:Array Oper}
abbrev aw (C:Ctx) (ops:Array Oper) (Q:Exit→Act→World→Prop) (fuel:Nat) (listed:Array Bool):Act→World→Prop:=wpAnyIn (wf C.ro) 0 C.P .any ops Q fuel listed
theorem A5 {id:Nat} {os:List Oper} (hm:C.P.follows .mixedOrders=true) (h:KJ C (aw C os.toArray Q os.length (Array.replicate os.length false)) δ ρ l I):KJ C (cw C (.region id os.toArray true) Q) δ ρ l I:=by
 intro a w ha hw
 refine wpIn_region_any hm ?_
 have hw':WSat C.X C.M C.w0 l I { w with drawn:=w.drawn+1 }:=by
  exact ⟨hw.lowX,⟨hw.ext.os,hw.ext.tape,hw.ext.output,hw.ext.size,hw.ext.block⟩,hw.nodup,hw.own,hw.ownX,hw.ownM,(hw.fr.step (w':={ w with drawn:=w.drawn+1 }) (Nat.le_refl _) (fun _ _ _=>rfl))⟩
 have:=h a _ ha hw'
 simpa using this
def Bf (ops:Array Oper) (i:Nat):Oper:=(ops[i]?).getD default
theorem Ad (i:Nat) {fuel:Nat} {listed:Array Bool} (k:KJ C (Ax C ops (Bf ops i) (aw C ops Q fuel (listed.setIfInBounds i true)) Q) δ ρ l I) (hr:Region.ready .any ops listed=[i]:=by kernel_rfl) (hi:(ops[i]?).isSome=true:=by kernel_rfl) :
  KJ C (aw C ops Q (fuel+1) listed) δ ρ l I:=by
 intro a w ha hw
 have h:=k a w ha hw
 refine ⟨fun h0=>absurd (hr.symm.trans h0) (by simp),fun j hj=>?_⟩
 rw [hr] at hj
 obtain rfl:j=i:=by simpa using hj
 obtain ⟨o,ho⟩:=Option.isSome_iff_exists.1 hi
 simp only [wpOpIn,ho]
 simpa [Bf,ho,Ax] using h
theorem A6 {fuel:Nat} {listed:Array Bool} (k:KJ C (Q .normal) δ ρ l I) (hr:Region.ready .any ops listed=[]:=by kernel_rfl):KJ C (aw C ops Q fuel listed) δ ρ l I:=by
 intro a w ha hw
 cases fuel with
 | zero=>exact ⟨hr,k a w ha hw⟩
 | succ f=>exact ⟨fun _=>k a w ha hw,fun j hj=>by rw [hr] at hj; cases hj⟩
def B7 (o:Oper):List Nat:=(o.after.toList.filter (Region.binds .any)).map (·.on)
def Down (ops:Array Oper) (D:Nat→Prop):Prop:=∀ i,D i→∀ j∈B7 (Bf ops i),D j
def mk1 (acc:List Nat) (o:Oper):Nat:=(B7 o).foldl (fun s j=>s ||| 2 ^ j ||| acc.getD j 0) 0
def mks:List Oper→List Nat→List Nat
 | [],acc=>acc
 | o::r,acc=>mks r (acc++[mk1 acc o])
theorem fold_bits (acc:List Nat):∀ (js:List Nat) (s j:Nat),(js.foldl (fun s j=>s ||| 2 ^ j ||| acc.getD j 0) s).testBit j=true→s.testBit j=true∨∃ k∈js,j=k∨(acc.getD k 0).testBit j=true:=by
 intro js
 induction js with
 | nil=>intro s j h; exact .inl h
 | cons k js ih =>
  intro s j h
  simp only [List.foldl_cons] at h
  rcases ih _ j h with h | ⟨k',hk',h⟩
  ·simp only [Nat.testBit_or,Bool.or_eq_true,Nat.testBit_two_pow] at h
   rcases h with (h | h) | h
   ·exact .inl h
   ·exact .inr ⟨k,.head _,.inl (by have:=of_decide_eq_true h; omega)⟩
   ·exact .inr ⟨k,.head _,.inr h⟩
  ·exact .inr ⟨k',.tail _ hk',h⟩
theorem mks_in {ops:Array Oper} {D:Nat→Prop} (hD:Down ops D):∀ (rest:List Oper) (acc:List Nat),ops.toList.drop acc.length=rest →
  (∀ i m,acc[i]? = some m→(∀ j∈B7 (Bf ops i),D j)→∀ j,m.testBit j=true→D j) →
  ∀ i m,(mks rest acc)[i]? = some m→(∀ j∈B7 (Bf ops i),D j)→∀ j,m.testBit j=true→D j:=by
 intro rest
 induction rest with
 | nil=>intro acc _ h; exact h
 | cons o r ih =>
  intro acc hr h
  have hlt:acc.length < ops.size:=by
   rcases Nat.lt_or_ge acc.length ops.size with h' | h'
   ·exact h'
   ·rw [List.drop_of_length_le (by simpa using h')] at hr; cases hr
  have ho:Bf ops acc.length=o:=by
   have:=List.drop_eq_getElem_cons (l:=ops.toList) (i:=acc.length) (by simpa using hlt)
   rw [this] at hr
   injection hr with h1 _
   simp only [Array.getElem_toList] at h1
   simp [Bf,Array.getElem?_eq_getElem hlt,h1]
  refine ih (acc++[mk1 acc o]) ?_ ?_
  ·rw [List.length_append,List.length_singleton,← List.drop_drop,hr]; rfl
  ·intro i m hi hb j hj
   rcases Nat.lt_or_ge i acc.length with h' | h'
   ·rw [List.getElem?_append_left h'] at hi
    exact h i m hi hb j hj
   ·rw [List.getElem?_append_right h'] at hi
    have hi0:i-acc.length=0:=by
     rcases Nat.eq_zero_or_pos (i-acc.length) with h0 | h0
     ·exact h0
     ·rw [List.getElem?_eq_none (by simp; omega)] at hi; cases hi
    rw [hi0] at hi
    simp only [List.getElem?_cons_zero,Option.some.injEq] at hi
    obtain rfl:i=acc.length:=by omega
    rw [ho] at hb
    subst hi
    rcases fold_bits acc _ _ _ hj with h0 | ⟨k,hk,h0⟩
    ·simp at h0
    ·rcases h0 with rfl | h0
     ·exact hb j hk
     ·cases hk':acc[k]? with
      | none=>simp [List.getD,hk'] at h0
      | some mk =>
       simp only [List.getD,hk',Option.getD_some] at h0
       exact h k mk hk' (hD k (hb k hk)) j h0
def allL (B:List Nat) (f:Nat→Prop):Prop:=∀ j∈B,f j
def Au (ops:Array Oper) (i:Nat):Nat:=((Bf ops i).dst).getD 0
def blkB (ops:Array Oper) (listed:Array Bool) (B:List Nat) (need:Nat→List Nat):Bool :=
 let m:=mks ops.toList []
 let all:=List.range ops.size
 listed.size == ops.size && decide B.Nodup && decide ((B.map (Au ops)).Nodup) &&
 B.all (fun i=>decide (i < ops.size) && !listed.getD i true && (Bf ops i).dst.isSome && (match (Bf ops i).op with | .defer _=>false | _=>true) &&
  (B7 (Bf ops i)).all (fun j=>listed.getD j false || (B.contains j && decide (j < i))) &&
  (need i).all (fun j=>B.contains j && (m.getD i 0).testBit j)) &&
 all.all (fun k=>B.contains k || listed.getD k true || B.all (fun b=>(m.getD k 0).testBit b)) &&
 all.all (fun k=>!listed.getD k true || (B7 (Bf ops k)).all (fun j=>listed.getD j false))
variable {G:Nat→Type}
def upd (x:∀ j,G j) (i:Nat) (g:G i):∀ j,G j:=fun j=>if h:j=i then h ▸ g else x j
theorem upd_other (x:∀ j,G j) (i:Nat) (g:G i) {j:Nat} (h:j≠i):upd x i g j=x j:=by simp [upd,h]
structure Blk (G:Nat→Type) where
 val:Nat→(∀ j,G j)→Value
 fact:Nat→(∀ j,G j)→World→Prop
 pf:Nat→(∀ j,G j)→Prop
def blkPost (C:Ctx) (ops:Array Oper) (b:Blk G) (δ:List Deferred) (l:List A9) (i:Nat) (J:World→Prop) (x:∀ j,G j) (a:Act) (w:World):Prop :=
 ∃ y:∀ j,G j,(∀ j,j≠i→y j=x j)∧b.pf i y∧a.defers=δ∧a.tmps[Au ops i]? = some (b.val i y)∧WSat C.X C.M C.w0 l (fun w=>b.fact i y w∧J w) w
def envB (ops:Array Oper) (b:Blk G) (x:∀ j,G j):List Nat→Da
 | []=>[]
 | j::r=>(Au ops j,b.val j x)::envB ops b x r
theorem lk_envB {b:Blk G} {x:∀ j,G j} {ρ:Da}:∀ {B:List Nat} {t:Nat} {v:Value},lk (envB ops b x B++ρ) t=some v→(∃ j∈B,Au ops j=t∧b.val j x=v)∨lk ρ t=some v:=by
 intro B
 induction B with
 | nil=>intro t v h; exact .inr h
 | cons j r ih =>
  intro t v h
  simp only [envB,List.cons_append,lk] at h
  cases e:Nat.beq (Au ops j) t with
  | true=>rw [e] at h; simp at h; exact .inl ⟨j,.head _,Nat.eq_of_beq_eq_true e,h⟩
  | false =>
   rw [e] at h
   rcases ih h with ⟨j',h1,h2⟩ | h
   ·exact .inl ⟨j',.tail _ h1,h2⟩
   ·exact .inr h
theorem step_put {o:Oper} {a:Act} {w:World} (h:Ax C ops o K Q a w):Ax C ops o (fun a' w'=>K a' w'∧∃ v,a'.tmps=(a.put o.dst v).tmps) Q a w:=by
 unfold Ax at *
 split
 ·rename_i hw
  simp only [hw,if_true] at h
  unfold Oper.wpIn at *
  refine ⟨h.1,?_⟩
  have hh:=h.2
  generalize (o.semAt (wf C.ro).round a.eval).run C.P w=r at *
  cases r with
  | ok x w' =>
   cases x with
   | value v=>exact ⟨hh,v,rfl⟩
   | skip=>exact ⟨hh,undef,rfl⟩
   | defer d=>exact ⟨hh,undef,by cases o.dst <;> rfl⟩
   | enter f args =>
    refine ⟨hh.1,CallsIn.mono hh.2 ?_⟩
    intro e w'' he
    cases e with
    | returned v=>exact ⟨he,v,rfl⟩
    | panicked c=>exact he
    | outgrown=>exact he
   | row r args=>exact ⟨hh.1,RowsIn.mono hh.2 (fun v w'' he=>⟨he,v,rfl⟩)⟩
   | round l' f t as b =>
    refine ⟨hh.1,RoundIn.mono hh.2 ?_⟩
    intro e w'' he
    cases e with
    | returned v=>exact ⟨he,v,rfl⟩
    | panicked c=>exact he
    | outgrown=>exact he
   | _=>exact hh
  | halt x w'=>cases x <;> exact hh
 ·rename_i hw
  simp only [hw] at h
  exact ⟨h.1,h.2,undef,rfl⟩
theorem Bs {o:Oper} {a:Act} {w:World} {K':Act→World→Prop} (hk:∀ a w,K a w→K' a w) (h:Ax C ops o K Q a w):Ax C ops o K' Q a w:=by
 unfold Ax at *
 split
 ·rename_i hw; simp only [hw,if_true] at h; exact Oper.wpIn_mono hk h
 ·rename_i hw; simp only [hw] at h; exact ⟨h.1,hk _ _ h.2⟩
theorem Ea:∀ {l m:List Nat},l.Nodup→(∀ x∈l,x∈m)→l.length≤m.length:=by
 intro l
 induction l with
 | nil=>intro m _ _; simp
 | cons a l ih =>
  intro m hn hs
  have ha:a∈m:=hs a (.head _)
  have h2:=ih (m:=m.erase a) (List.nodup_cons.1 hn).2 (fun x hx=>(List.mem_erase_of_ne (by rintro rfl; exact (List.nodup_cons.1 hn).1 hx)).2 (hs x (.tail _ hx)))
  rw [List.length_erase_of_mem ha] at h2
  have:0 < m.length:=List.length_pos_of_mem ha
  simp only [List.length_cons]; omega
theorem C1 {lst:Array Bool} {i:Nat}:i∈Region.ready .any ops lst↔i < ops.size∧lst.getD i true=false∧∀ j∈B7 (Bf ops i),lst.getD j false=true:=by
 unfold Region.ready
 simp only [List.mem_filter,List.mem_range,Bool.and_eq_true,Bool.not_eq_true']
 constructor
 ·rintro ⟨h1,h2,h3⟩
  refine ⟨h1,h2,fun j hj=>?_⟩
  simp only [Bf,Array.getElem?_eq_getElem h1,Option.getD_some] at hj
  simp only [Array.getElem?_eq_getElem h1,Option.map_some,Option.getD_some] at h3
  obtain ⟨e,he,rfl⟩:=List.mem_map.1 hj
  obtain ⟨he1,he2⟩:=List.mem_filter.1 he
  have:=(Array.all_eq_true'.1 h3) e (Array.mem_toList_iff.1 he1)
  simpa [he2] using this
 ·rintro ⟨h1,h2,h3⟩
  refine ⟨h1,h2,?_⟩
  simp only [Array.getElem?_eq_getElem h1,Option.map_some,Option.getD_some]
  refine Array.all_eq_true'.2 fun e he=>?_
  cases hb:Region.binds .any e with
  | false=>simp
  | true =>
   have:e.on∈B7 (Bf ops i):=by
    simp only [Bf,Array.getElem?_eq_getElem h1,Option.getD_some]
    exact List.mem_map.2 ⟨e,List.mem_filter.2 ⟨Array.mem_toList_iff.2 he,hb⟩,rfl⟩
   simp [h3 _ this]
theorem Ep {lst:Array Bool} {i k:Nat} {d:Bool} (hi:i < lst.size):(lst.setIfInBounds i true).getD k d=if k=i then true else lst.getD k d:=by
 simp only [Array.getD_eq_getD_getElem?,Array.getElem?_setIfInBounds]
 by_cases h:k=i
 ·subst h; simp [hi]
 ·rw [if_neg h,if_neg (fun e=>h e.symm)]
theorem Ci {lst:Array Bool} {k:Nat} (h:k < lst.size) (d d':Bool):lst.getD k d=lst.getD k d':=by
 simp [Array.getD_eq_getD_getElem?,h]
theorem Fz (B:List Nat):∀ (lst:Array Bool),(B.foldl (fun l i=>l.setIfInBounds i true) lst).size=lst.size:=by
 induction B with
 | nil=>intro _; rfl
 | cons i B ih=>intro lst; simp only [List.foldl_cons,ih]; simp
theorem Gm (B:List Nat):∀ (lst:Array Bool),(∀ i∈B,i < lst.size)→∀ k,k < lst.size→(B.foldl (fun l i=>l.setIfInBounds i true) lst).getD k true=(lst.getD k true || B.contains k):=by
 induction B with
 | nil=>intro lst _ k _; simp
 | cons i B ih =>
  intro lst hB k hk
  simp only [List.foldl_cons]
  rw [ih _ (fun j hj=>by simpa using hB j (.tail _ hj)) k (by simpa using hk),Ep (hB i (.head _))]
  by_cases h:k=i
  ·subst h; simp
  ·have h':(k == i)=false:=by simpa using h
   rw [if_neg h]; simp [List.contains_cons,h]
theorem Ha {B D:List Nat} (h:∃ i,i∈B∧i∉D):∃ i,i∈B∧i∉D∧∀ j,j∈B→j < i→j∈D:=by
 obtain ⟨n,⟨h1,h2⟩,h3⟩:=least_of (p:=fun i=>i∈B∧i∉D) h
 refine ⟨n,h1,h2,fun j hj hlt=>?_⟩
 by_cases hd:j∈D
 ·exact hd
 ·have:=h3 j ⟨hj,hd⟩; omega
end Go.Chx
namespace Go.Chx
open Go
variable {C:Ctx} {δ:List Deferred} {ρ:Da} {l:List A9} {I:World→Prop} {K:Act→World→Prop} {Q:Exit→Act→World→Prop} {ops:Array Oper}
def Rd (C:Ctx) (ops:Array Oper) (δ:List Deferred) (l:List A9) (i:Nat) (ρ:Da) (I:World→Prop) (v:Value):Prop :=
 ∀ (Q:Exit→Act→World→Prop) (K:Act→World→Prop) (R:World→Prop) (m:List A9),KJ C K δ ((Au ops i,v)::ρ) (l++m) (fun w=>I w∧R w)→KJ C (Ax C ops (Bf ops i) K Q) δ ρ (l++m) (fun w=>I w∧R w)
def Rg (C:Ctx) (ops:Array Oper) (δ:List Deferred) (l:List A9) (i:Nat) (ρ:Da) (I:World→Prop) {γ:Type} (p:γ→Prop) (v:γ→Value) (l':γ→List A9) (J:γ→World→Prop):Prop :=
 ∀ (Q:Exit→Act→World→Prop) (K:Act→World→Prop) (R:World→Prop),(∀ x,p x→KJ C K δ ((Au ops i,v x)::ρ) (l' x) (fun w=>(J x w∧I w)∧R w))→KJ C (Ax C ops (Bf ops i) K Q) δ ρ l (fun w=>I w∧R w)
inductive Tx (C:Ctx) (ops:Array Oper) (δ:List Deferred) (isG:Nat→Bool) (Di:Da→List A9→(World→Prop)→Prop):List Nat→Da→List A9→(World→Prop)→Prop
 | nil {ρ:Da} {l:List A9} {I:World→Prop}:Di ρ l I→Tx C ops δ isG Di [] ρ l I
 | det {i:Nat} {B:List Nat} {ρ:Da} {l:List A9} {I:World→Prop} (v:Value):Rd C ops δ l i ρ I v→Tx C ops δ isG Di B ((Au ops i,v)::ρ) l I→Tx C ops δ isG Di (i::B) ρ l I
 | gh {i:Nat} {B:List Nat} {ρ:Da} {l:List A9} {I:World→Prop} {γ:Type} (p:γ→Prop) (v:γ→Value) (l':γ→List A9) (J:γ→World→Prop):isG i=true→Rg C ops δ l i ρ I p v l' J→(∀ x,∃ m,l' x=l++m) →
   (∀ x,p x→Tx C ops δ isG Di B ((Au ops i,v x)::ρ) (l' x) (fun w=>J x w∧I w))→Tx C ops δ isG Di (i::B) ρ l I
inductive TS (C:Ctx) (ops:Array Oper) (δ:List Deferred) (isG:Nat→Bool) (Di:Da→List A9→(World→Prop)→Prop) (D:List Nat) (a:Act):List Nat→Da→List A9→(World→Prop)→List A9→(World→Prop)→Prop
 | stop {B:List Nat} {ρ:Da} {l:List A9} {I:World→Prop}:(∀ j∈B,j∉D)→Tx C ops δ isG Di B ρ l I→TS C ops δ isG Di D a B ρ l I l I
 | det {i:Nat} {B:List Nat} {ρ:Da} {l L:List A9} {I J:World→Prop} (v:Value):Rd C ops δ l i ρ I v→(i∈D→a.tmps[Au ops i]? = some v)→TS C ops δ isG Di D a B ((Au ops i,v)::ρ) l I L J→TS C ops δ isG Di D a (i::B) ρ l I L J
 | gh {i:Nat} {B:List Nat} {ρ:Da} {l L:List A9} {I J J':World→Prop} (v:Value) (m:List A9):isG i=true→i∈D→a.tmps[Au ops i]? = some v→TS C ops δ isG Di D a B ((Au ops i,v)::ρ) (l++m) (fun w=>J' w∧I w) L J→TS C ops δ isG Di D a (i::B) ρ l I L J
variable {isG:Nat→Bool} {Di:Da→List A9→(World→Prop)→Prop} {L:List A9}
theorem TS.ext {D:List Nat} {a:Act} {B:List Nat} {ρ:Da} {I J:World→Prop} (h:TS C ops δ isG Di D a B ρ l I L J):∃ m,L=l++m:=by
 induction h with
 | stop _ _=>exact ⟨[],(List.append_nil _).symm⟩
 | det _ _ _ _ ih=>exact ih
 | gh _ m _ _ _ _ ih=>obtain ⟨m',rfl⟩:=ih; exact ⟨m++m',by rw [List.append_assoc]⟩
theorem TS.imp {D:List Nat} {a:Act} {B:List Nat} {ρ:Da} {I J:World→Prop} (h:TS C ops δ isG Di D a B ρ l I L J):∀ w,J w→I w:=by
 induction h with
 | stop _ _=>exact fun _ h=>h
 | det _ _ _ _ ih=>exact ih
 | gh _ _ _ _ _ _ ih=>exact fun w h=>(ih w h).2
theorem step_two {o:Oper} {a1 a2:Act} {w:World} (hd:a1.defers=a2.defers) (hsel:∀ cs b,o.op≠.select cs b) (hndf:∀ c,o.op≠.defer c)
  (hop:∀ x∈o.op.operands,a1.eval x=a2.eval x) (hg:∀ g b,o.guard=some (g,b)→yielded ops a1.tmps g=yielded ops a2.tmps g)
  (h:Ax C ops o K (fun _ _ _=>False) a1 w) (hK:∀ a w,K a w→a.defers=a1.defers):Ax C ops o (fun a' w'=>∃ v,a'=a2.put o.dst v∧K (a1.put o.dst v) w') Q a2 w:=by
 have hex:execOp a2.eval o=execOp a1.eval o:=(execOp_congr o hsel hop).symm
 have hw:Region.wanted o (yielded ops a2.tmps)=Region.wanted o (yielded ops a1.tmps):=by
  unfold Region.wanted
  split
  ·rfl
  ·rename_i g b e
   rw [hg g b e]
 unfold Ax at *
 rw [hw]
 split
 ·rename_i hw1
  simp only [hw1,if_true] at h
  refine ⟨fun _ _=>trivial,?_⟩
  have hh:=h.2
  rw [Oper.semAt_eq _ _ _ hndf] at hh ⊢
  rw [hex]
  generalize (execOp a1.eval o).run C.P w=r at *
  cases r with
  | ok x w' =>
   cases x with
   | value v=>exact ⟨v,rfl,hh⟩
   | skip=>exact ⟨undef,rfl,hh⟩
   | defer d =>
    have:=hK _ _ hh
    exfalso
    have e:({ a1 with defers:=d::a1.defers }:Act).put o.dst undef = { (a1.put o.dst undef) with defers:=d::a1.defers }:=by cases o.dst <;> rfl
    rw [e] at this
    have:=congrArg List.length this
    simp at this
   | enter f args =>
    refine ⟨hh.1,CallsIn.mono hh.2 ?_⟩
    intro e w'' he
    cases e with
    | returned v=>exact ⟨v,rfl,he⟩
    | panicked c=>exact he.elim
    | outgrown=>obtain ⟨_,_,he⟩:=he; exact he.elim
   | row r args=>exact ⟨hh.1,RowsIn.mono hh.2 (fun v w'' he=>⟨v,rfl,he⟩)⟩
   | round l' f t as b =>
    refine ⟨hh.1,RoundIn.mono hh.2 ?_⟩
    intro e w'' he
    cases e with
    | returned v=>exact ⟨v,rfl,he⟩
    | panicked c=>exact he.elim
    | outgrown=>obtain ⟨_,_,he⟩:=he; exact he.elim
   | _=>exact hh
  | halt x w'=>cases x <;> first | exact hh | exact (show False from hh).elim
 ·rename_i hw1
  simp only [hw1] at h
  exact ⟨fun _ _=>trivial,undef,rfl,h.2⟩
def fillA (N:Nat) (ρ:Da) (a:Act):Act:={ a with tmps:=Array.ofFn (n:=N) fun t=>(lk ρ t).getD (a.tmps.getD t undef) }
theorem fillA_sim {N:Nat} {ρ:Da} {a:Act} (hd:a.defers=δ) (hlt:∀ t v,lk ρ t=some v→t < N):Sim N δ ρ (fillA N ρ a) :=
 ⟨by simp [fillA],hd,fun t v h=>by simp [fillA,hlt t v h,h]⟩
theorem fillA_get {N:Nat} {ρ:Da} {a:Act} (hs:a.tmps.size=N) {t:Nat} (h:∀ v,lk ρ t=some v→a.tmps[t]? = some v):(fillA N ρ a).tmps[t]? = a.tmps[t]?:=by
 by_cases ht:t < N
 ·cases hl:lk ρ t with
  | none=>simp [fillA,ht,hl,hs]
  | some v=>simp [fillA,ht,hl,h v hl]
 ·simp [fillA,ht,hs]
def Hv (o:Oper) (t:Nat):Prop:=(Operand.tmp t)∈o.op.operands
def Reads (ops:Array Oper) (i:Nat) (ρ:Da) (a:Act):Prop :=
 (∀ t,Hv (Bf ops i) t→∀ v,lk ρ t=some v→a.tmps[t]? = some v) ∧
 (∀ g b d,(Bf ops i).guard=some (g,b)→(ops[g]?).bind (·.dst)=some d→∀ v,lk ρ d=some v→a.tmps[d]? = some v)
theorem Reads.cons {i j:Nat} {ρ:Da} {a:Act} {v:Value} (h:Reads ops i ρ a)
  (h1:Hv (Bf ops i) (Au ops j)→a.tmps[Au ops j]? = some v)
  (h2:∀ g b,(Bf ops i).guard=some (g,b)→(ops[g]?).bind (·.dst)=some (Au ops j)→a.tmps[Au ops j]? = some v):Reads ops i ((Au ops j,v)::ρ) a:=by
 constructor
 ·intro t ht u hu
  simp only [lk] at hu
  cases e:Nat.beq (Au ops j) t with
  | true =>
   rw [e] at hu
   have:=Nat.eq_of_beq_eq_true e
   subst this
   simp at hu; subst hu
   exact h1 ht
  | false=>rw [e] at hu; exact h.1 t ht u hu
 ·intro g b d hg hd u hu
  simp only [lk] at hu
  cases e:Nat.beq (Au ops j) d with
  | true =>
   rw [e] at hu
   have:=Nat.eq_of_beq_eq_true e
   subst this
   simp at hu; subst hu
   exact h2 g b hg hd
  | false=>rw [e] at hu; exact h.2 g b d hg hd u hu
def Bd (i:Nat):List Nat→List Nat
 | []=>[]
 | j::B=>if j=i then [] else j::Bd i B
theorem TS.mono {D D':List Nat} {a a':Act} {B:List Nat} {ρ:Da} {I J:World→Prop} (h:TS C ops δ isG Di D a B ρ l I L J) (hD:∀ j∈B,(j∈D'↔j∈D)) (ha:∀ j∈B,j∈D→a'.tmps[Au ops j]? = a.tmps[Au ops j]?) :
  TS C ops δ isG Di D' a' B ρ l I L J:=by
 induction h with
 | stop h1 h2=>exact .stop (fun j hj hd=>h1 j hj ((hD j hj).1 hd)) h2
 | det v h1 h2 _ ih=>exact .det v h1 (fun hd=>by rw [ha _ (.head _) ((hD _ (.head _)).1 hd)]; exact h2 ((hD _ (.head _)).1 hd)) (ih (fun j hj=>hD j (.tail _ hj)) (fun j hj=>ha j (.tail _ hj)))
 | gh v m h1 h2 h3 _ ih=>exact .gh v m h1 ((hD _ (.head _)).2 h2) (by rw [ha _ (.head _) h2]; exact h3) (ih (fun j hj=>hD j (.tail _ hj)) (fun j hj=>ha j (.tail _ hj)))
abbrev stepQ (C:Ctx) (ops:Array Oper) (δ:List Deferred) (l:List A9) (isG:Nat→Bool) (Di:Da→List A9→(World→Prop)→Prop) (D:List Nat) (a:Act) (i:Nat) (B:List Nat) (ρ:Da) (I:World→Prop) (a':Act) (w':World):Prop :=
 ∃ v,a'=a.put (some (Au ops i)) v∧∃ L' J',TS C ops δ isG Di (i::D) a' B ρ l I L' J'∧WSat C.X C.M C.w0 L' J' w'
theorem Fx {i:Nat} {a:Act} {w:World} {ρ:Da} {I J:World→Prop} {γ:Type} {p:γ→Prop} {v:γ→Value} {l':γ→List A9} {Jx:γ→World→Prop}
  (hdst:(Bf ops i).dst=some (Au ops i)) (hdN:Au ops i < C.N) (hsel:∀ cs b,(Bf ops i).op≠.select cs b) (hndf:∀ c,(Bf ops i).op≠.defer c)
  (hs:a.tmps.size=C.N) (hd:a.defers=δ) (hlt:∀ t v,lk ρ t=some v→t < C.N) (hr:Reads ops i ρ a)
  (rule:Rg C ops δ l i ρ I p v l' Jx) (hw:WSat C.X C.M C.w0 l J w) (hJ:∀ w,J w→I w) :
  Ax C ops (Bf ops i) (fun a' w'=>∃ x,p x∧a'=a.put (some (Au ops i)) (v x)∧WSat C.X C.M C.w0 (l' x) (fun w=>Jx x w∧J w) w') Q a w:=by
 have key:=rule (fun _ _ _=>False) (fun a' w'=>a'.defers=δ∧∃ x,p x∧a'.tmps[Au ops i]? = some (v x)∧WSat C.X C.M C.w0 (l' x) (fun w=>Jx x w∧J w) w') J
  (fun x hx a' w' ha' hw'=>⟨ha'.dfr,x,hx,ha'.get _ _ (by simp [lk]),hw'.imp fun w h=>⟨h.1.1,h.2⟩⟩)
  (fillA C.N ρ a) w (fillA_sim hd hlt) (hw.imp fun w h=>⟨hJ w h,h⟩)
 have hget:∀ t,(∀ u,lk ρ t=some u→a.tmps[t]? = some u)→(fillA C.N ρ a).tmps[t]? = a.tmps[t]?:=fun t h=>fillA_get hs h
 have h2:=step_two (C:=C) (Q:=Q) (a1:=fillA C.N ρ a) (a2:=a) (w:=w) (K:=fun a' w'=>a'.defers=δ∧∃ x,p x∧a'.tmps[Au ops i]? = some (v x)∧WSat C.X C.M C.w0 (l' x) (fun w=>Jx x w∧J w) w') rfl hsel hndf (fun x hx=>by
  cases x with
  | tmp t =>
   have:=hget t (hr.1 t hx)
   simp only [Act.eval,Array.getD_eq_getD_getElem?,this]
  | const v=>rfl
  | global g=>rfl
  | func f=>rfl) (fun g b hg=>by
  unfold yielded
  cases hdd:(ops[g]?).bind (·.dst) with
  | none=>rfl
  | some d =>
   have:=hget d (hr.2 g b d hg hdd)
   simp only [Option.bind_some,this]) key (fun a' w' h=>h.1.trans hd.symm)
 refine Bs (fun a' w' h=>?_) h2
 obtain ⟨u,rfl,_,x,hx,hv,hw'⟩:=h
 rw [hdst] at hv ⊢
 have hu:u=v x:=by
  have:Au ops i < (fillA C.N ρ a).tmps.size:=by simp [fillA,hdN]
  simp only [Act.put,Array.getElem?_setIfInBounds_self_of_lt this,Option.some.injEq] at hv
  exact hv
 subst hu
 exact ⟨x,hx,rfl,hw'⟩
theorem TS.step {i:Nat} {D:List Nat} {a:Act} {w:World} (hiD:i∉D)
  (hdst:(Bf ops i).dst=some (Au ops i)) (hdN:Au ops i < C.N) (hsel:∀ cs b,(Bf ops i).op≠.select cs b) (hndf:∀ c,(Bf ops i).op≠.defer c)
  (hs:a.tmps.size=C.N) (hd:a.defers=δ):∀ {B:List Nat} {ρ:Da} {l L:List A9} {I J:World→Prop},TS C ops δ isG Di D a B ρ l I L J→i∈B→B.Nodup →
  (∀ j∈B,Au ops j < C.N)→(∀ j∈B,j≠i→Au ops j≠Au ops i)→(∀ g∈Bd i B,isG g=true→g∈D) →
  (∀ j∈Bd i B,(Hv (Bf ops i) (Au ops j)∨∃ g b,(Bf ops i).guard=some (g,b)∧(ops[g]?).bind (·.dst)=some (Au ops j))→j∈D) →
  (∀ t v,lk ρ t=some v→t < C.N)→Reads ops i ρ a→WSat C.X C.M C.w0 L J w →
  Ax C ops (Bf ops i) (stepQ C ops δ l isG Di D a i B ρ I) Q a w:=by
 intro B ρ l L I J h
 have hput:∀ (v:Value) (d:Nat),d≠Au ops i→(a.put (some (Au ops i)) v).tmps[d]? = a.tmps[d]?:=by
  intro v d hne
  simp only [Act.put,Array.getElem?_setIfInBounds]
  rw [if_neg (fun e=>hne e.symm)]
 have hputi:∀ v,(a.put (some (Au ops i)) v).tmps[Au ops i]? = some v:=by
  intro v
  simp only [Act.put,Array.getElem?_setIfInBounds]
  rw [if_pos trivial,if_pos (by omega)]
 have hltc:∀ {ρ:Da} {j:Nat} {v:Value},(∀ t v,lk ρ t=some v→t < C.N)→Au ops j < C.N→∀ t u,lk ((Au ops j,v)::ρ) t=some u→t < C.N:=by
  intro ρ j v h hj t u hu
  simp only [lk] at hu
  cases e:Nat.beq (Au ops j) t with
  | true=>have:=Nat.eq_of_beq_eq_true e; omega
  | false=>rw [e] at hu; exact h t u hu
 have inTx:∀ {B:List Nat} {ρ:Da} {l:List A9} {I:World→Prop},Tx C ops δ isG Di B ρ l I→(∀ j∈B,j∉D)→i∈B→B.Nodup →
   (∀ j∈B,Au ops j < C.N)→(∀ j∈B,j≠i→Au ops j≠Au ops i)→(∀ g∈Bd i B,isG g=true→g∈D) →
   (∀ j∈Bd i B,(Hv (Bf ops i) (Au ops j)∨∃ g b,(Bf ops i).guard=some (g,b)∧(ops[g]?).bind (·.dst)=some (Au ops j))→j∈D) →
   (∀ t v,lk ρ t=some v→t < C.N)→Reads ops i ρ a→∀ {J:World→Prop},(∀ w,J w→I w)→WSat C.X C.M C.w0 l J w→(∀ w,I w→J w) →
   Ax C ops (Bf ops i) (stepQ C ops δ l isG Di D a i B ρ I) Q a w:=by
  intro B ρ l I ht
  induction ht with
  | nil _=>intro _ hi; cases hi
  | @det j B ρ l I v rule ht ih =>
   intro hnD hi hnod hN hne hg hrd hlt hR J hJ hw hIJ
   by_cases hji:j=i
   ·subst hji
    have rule':Rg C ops δ l j ρ I (fun _:Unit=>True) (fun _=>v) (fun _=>l) (fun _ _=>True):=fun Q K R k=>by
     have:=rule Q K R []
     rw [List.append_nil] at this
     exact this (Ae (fun w h=>⟨⟨trivial,h.1⟩,h.2⟩) (k () trivial))
    refine Bs (fun a' w' h=>?_) (Fx hdst hdN hsel hndf hs hd hlt hR rule' hw hJ)
    obtain ⟨_,_,rfl,hw'⟩:=h
    refine ⟨v,rfl,l,I,.det v rule (fun _=>hputi v) (.stop (fun k hk hkd=>?_) ht),hw'.imp fun w h=>hJ w h.2⟩
    cases hkd with
    | head=>exact (List.nodup_cons.1 hnod).1 hk
    | tail _ h=>exact hnD k (.tail _ hk) h
   ·have hib:i∈B:=by cases hi with
     | head=>exact absurd rfl hji
     | tail _ h=>exact h
    have hbef:Bd i (j::B)=j::Bd i B:=by simp [Bd,hji]
    have hjD:j∉D:=hnD j (.head _)
    have h2:=ih (fun k hk=>hnD k (.tail _ hk)) hib (List.nodup_cons.1 hnod).2 (fun k hk=>hN k (.tail _ hk)) (fun k hk=>hne k (.tail _ hk))
     (fun g hgm=>hg g (by rw [hbef]; exact .tail _ hgm)) (fun k hk=>hrd k (by rw [hbef]; exact .tail _ hk)) (hltc hlt (hN j (.head _)))
     (hR.cons (fun hr=>absurd (hrd j (by rw [hbef]; exact .head _) (.inl hr)) hjD) (fun g b h1 h2=>absurd (hrd j (by rw [hbef]; exact .head _) (.inr ⟨g,b,h1,h2⟩)) hjD)) hJ hw hIJ
    refine Bs (fun a' w' h=>?_) h2
    obtain ⟨u,rfl,L',J',hts,hw'⟩:=h
    refine ⟨u,rfl,L',J',.det v rule (fun hjd=>?_) hts,hw'⟩
    cases hjd with
    | head=>exact absurd rfl hji
    | tail _ h=>exact absurd h hjD
  | @gh j B ρ l I γ p v l' Jx hgj rule hext ht ih =>
   intro hnD hi hnod hN hne hg hrd hlt hR J hJ hw hIJ
   by_cases hji:j=i
   ·subst hji
    refine Bs (fun a' w' h=>?_) (Fx hdst hdN hsel hndf hs hd hlt hR rule hw hJ)
    obtain ⟨x,hx,rfl,hw'⟩:=h
    obtain ⟨m,hm⟩:=hext x
    rw [hm] at hw'
    have htx:=ht x hx
    rw [hm] at htx
    refine ⟨v x,rfl,_,_,.gh (J':=Jx x) (v x) m hgj (.head _) (hputi _) (.stop (fun k hk hkd=>?_) htx),hw'.imp fun w h=>⟨h.1,hJ w h.2⟩⟩
    cases hkd with
    | head=>exact (List.nodup_cons.1 hnod).1 hk
    | tail _ h=>exact hnD k (.tail _ hk) h
   ·have hbef:Bd i (j::B)=j::Bd i B:=by simp [Bd,hji]
    exact absurd (hg j (by rw [hbef]; exact .head _) hgj) (hnD j (.head _))
 induction h with
 | stop hn ht=>intro hi hnod hN hne hg hrd hlt hR hw; exact inTx ht hn hi hnod hN hne hg hrd hlt hR (fun _ h=>h) hw (fun _ h=>h)
 | @det j B ρ l L I J v rule hv hts ih =>
  intro hi hnod hN hne hg hrd hlt hR hw
  by_cases hji:j=i
  ·subst hji
   obtain ⟨m,hLm⟩:=hts.ext
   have rule':Rg C ops δ L j ρ I (fun _:Unit=>True) (fun _=>v) (fun _=>L) (fun _ _=>True):=fun Q K R k=>by
    have:=rule Q K R m
    rw [← hLm] at this
    exact this (Ae (fun w h=>⟨⟨trivial,h.1⟩,h.2⟩) (k () trivial))
   refine Bs (fun a' w' h=>?_) (Fx hdst hdN hsel hndf hs hd hlt hR rule' hw (TS.imp (.det v rule hv hts)))
   obtain ⟨_,_,rfl,hw'⟩:=h
   refine ⟨v,rfl,L,J,.det v rule (fun _=>hputi v) (hts.mono (fun k hk=>?_) (fun k hk _=>hput _ _ (hne k (.tail _ hk) ?_))),hw'.imp fun w h=>h.2⟩
   ·constructor
    ·intro h; cases h with
     | head=>exact absurd hk (List.nodup_cons.1 hnod).1
     | tail _ h=>exact h
    ·exact .tail _
   ·rintro rfl; exact (List.nodup_cons.1 hnod).1 hk
  ·have hib:i∈B:=by cases hi with
    | head=>exact absurd rfl hji
    | tail _ h=>exact h
   have hbef:Bd i (j::B)=j::Bd i B:=by simp [Bd,hji]
   have h2:=ih hib (List.nodup_cons.1 hnod).2 (fun k hk=>hN k (.tail _ hk)) (fun k hk=>hne k (.tail _ hk))
    (fun g hgm=>hg g (by rw [hbef]; exact .tail _ hgm)) (fun k hk=>hrd k (by rw [hbef]; exact .tail _ hk)) (hltc hlt (hN j (.head _)))
    (hR.cons (fun hr=>hv (hrd j (by rw [hbef]; exact .head _) (.inl hr))) (fun g b h1 h2=>hv (hrd j (by rw [hbef]; exact .head _) (.inr ⟨g,b,h1,h2⟩)))) hw
   refine Bs (fun a' w' h=>?_) h2
   obtain ⟨u,rfl,L',J',hts',hw'⟩:=h
   refine ⟨u,rfl,L',J',.det v rule (fun hjd=>?_) hts',hw'⟩
   cases hjd with
   | head=>exact absurd rfl hji
   | tail _ h=>rw [hput _ _ (hne j (.head _) hji)]; exact hv h
 | @gh j B ρ l L I J Jx v m hgj hjD hv hts ih =>
  intro hi hnod hN hne hg hrd hlt hR hw
  by_cases hji:j=i
  ·subst hji; exact absurd hjD hiD
  ·have hib:i∈B:=by cases hi with
    | head=>exact absurd rfl hji
    | tail _ h=>exact h
   have hbef:Bd i (j::B)=j::Bd i B:=by simp [Bd,hji]
   have h2:=ih hib (List.nodup_cons.1 hnod).2 (fun k hk=>hN k (.tail _ hk)) (fun k hk=>hne k (.tail _ hk))
    (fun g hgm=>hg g (by rw [hbef]; exact .tail _ hgm)) (fun k hk=>hrd k (by rw [hbef]; exact .tail _ hk)) (hltc hlt (hN j (.head _)))
    (hR.cons (fun _=>hv) (fun _ _ _ _=>hv)) hw
   refine Bs (fun a' w' h=>?_) h2
   obtain ⟨u,rfl,L',J',hts',hw'⟩:=h
   exact ⟨u,rfl,L',J',.gh v m hgj (.tail _ hjD) (by rw [hput _ _ (hne j (.head _) hji)]; exact hv) hts',hw'⟩
def H4 (o:Oper) (t:Nat):Bool:=o.op.operands.any fun x=>match x with | .tmp u=>Nat.beq u t | _=>false
theorem H3 {o:Oper} {t:Nat}:Hv o t↔H4 o t=true:=by
 unfold Hv H4
 rw [Array.any_eq_true']
 constructor
 ·intro h; exact ⟨_,h,by simp⟩
 ·rintro ⟨x,hx,h⟩
  cases x with
  | tmp u=>have:=Nat.eq_of_beq_eq_true h; subst this; exact hx
  | const _=>cases h
  | global _=>cases h
  | func _=>cases h
def txB (ops:Array Oper) (listed:Array Bool) (N:Nat) (B:List Nat) (isG:Nat→Bool):Bool :=
 let m:=mks ops.toList []
 let all:=List.range ops.size
 listed.size == ops.size && decide B.Nodup && decide ((B.map (Au ops)).Nodup) &&
 B.all (fun i=>decide (i < ops.size) && !listed.getD i true && (Bf ops i).dst.isSome && (match (Bf ops i).op with | .defer _=>false | .select _ _=>false | _=>true) && decide (Au ops i < N) &&
  (B7 (Bf ops i)).all (fun j=>listed.getD j false || (B.contains j && decide (j < i))) &&
  (Bd i B).all (fun j=>(m.getD i 0).testBit j || (!isG j && !H4 (Bf ops i) (Au ops j) && (match (Bf ops i).guard with | some (g,_)=>!((ops[g]?).bind (·.dst) == some (Au ops j)) | none=>true)))) &&
 all.all (fun k=>B.contains k || listed.getD k true || B.all (fun b=>(m.getD k 0).testBit b)) &&
 all.all (fun k=>!listed.getD k true || (B7 (Bf ops k)).all (fun j=>listed.getD j false))
theorem TS.done {D:List Nat} {a:Act} {w:World}:∀ {B:List Nat} {ρ:Da} {l L:List A9} {I J:World→Prop},TS C ops δ isG Di D a B ρ l I L J→(∀ j∈B,j∈D)→Sim C.N δ ρ a→WSat C.X C.M C.w0 L J w→∃ ρ',Di ρ' L J∧Sim C.N δ ρ' a:=by
 intro B ρ l L I J h
 have hcons:∀ {ρ:Da} {j:Nat} {v:Value},Sim C.N δ ρ a→a.tmps[Au ops j]? = some v→Sim C.N δ ((Au ops j,v)::ρ) a:=by
  intro ρ j v hs hv
  refine ⟨hs.size,hs.dfr,fun t u hu=>?_⟩
  simp only [lk] at hu
  cases e:Nat.beq (Au ops j) t with
  | true=>rw [e] at hu; have:=Nat.eq_of_beq_eq_true e; subst this; simp at hu; subst hu; exact hv
  | false=>rw [e] at hu; exact hs.get t u hu
 induction h with
 | @stop B ρ l I hn ht =>
  intro hall hs hw
  cases ht with
  | nil hf=>exact ⟨_,hf,hs⟩
  | det v _ _=>exact absurd (hall _ (.head _)) (hn _ (.head _))
  | gh p v l' J _ _ _ _=>exact absurd (hall _ (.head _)) (hn _ (.head _))
 | det v rule hv hts ih=>intro hall hs hw; exact ih (fun j hj=>hall j (.tail _ hj)) (hcons hs (hv (hall _ (.head _)))) hw
 | gh v m hg hD hv hts ih=>intro hall hs hw; exact ih (fun j hj=>hall j (.tail _ hj)) (hcons hs hv) hw
theorem A3 {fuel:Nat} {listed:Array Bool} (B:List Nat) (isG:Nat→Bool) (hchk:txB ops listed C.N B isG=true) (hf:Nat.ble B.length fuel=true) (hfresh:B.all (fun i=>(lk ρ (Au ops i)).isNone)=true)
  (k:Tx C ops δ isG (fun ρ' l' I'=>KJ C (aw C ops Q (fuel-B.length) (B.foldl (fun l i=>l.setIfInBounds i true) listed)) δ ρ' l' I') B ρ l I) :
  KJ C (aw C ops Q fuel listed) δ ρ l I:=by
 have hf:=Nat.le_of_ble_eq_true hf
 simp only [txB,Bool.and_eq_true,beq_iff_eq,decide_eq_true_eq,List.all_eq_true,Bool.not_eq_true',Bool.or_eq_true,List.contains_iff_mem,List.mem_range] at hchk
 obtain ⟨⟨⟨⟨⟨hsz,hnd⟩,hdst⟩,hB⟩,hout⟩,hdown⟩:=hchk
 have hfresh:∀ i∈B,lk ρ (Au ops i)=none:=fun i hi=>by simpa using List.all_eq_true.1 hfresh i hi
 have main:∀ (n:Nat) (D:List Nat) (lst:Array Bool) (a:Act) (w:World) (L:List A9) (J:World→Prop),n+D.length=B.length→D.Nodup→(∀ j∈D,j∈B)→lst.size=ops.size →
   (∀ k,k < ops.size→(lst.getD k true=true↔listed.getD k true=true∨k∈D))→(∀ k,k < ops.size→lst.getD k true=true→∀ j∈B7 (Bf ops k),lst.getD j false=true) →
   Sim C.N δ ρ a→TS C ops δ isG (fun ρ' l' I'=>KJ C (aw C ops Q (fuel-B.length) (B.foldl (fun l i=>l.setIfInBounds i true) listed)) δ ρ' l' I') D a B ρ l I L J→WSat C.X C.M C.w0 L J w →
   wpAnyIn (wf C.ro) 0 C.P .any ops Q (fuel-D.length) lst a w:=by
  intro n
  induction n with
  | zero =>
   intro D lst a w L J hn hDn hDB hls hlst _ hs hts hw
   have hall:∀ j∈B,j∈D:=by
    intro j hj
    by_cases hd:j∈D
    ·exact hd
    ·have:=Ea (l:=j::D) (m:=B) (List.nodup_cons.2 ⟨hd,hDn⟩) (fun y hy=>by cases hy with
      | head=>exact hj
      | tail _ h=>exact hDB y h)
     simp at this; omega
   have he:lst=B.foldl (fun l i=>l.setIfInBounds i true) listed:=by
    have hlt:∀ i∈B,i < listed.size:=fun i hi=>by rw [hsz]; exact (hB i hi).1.1.1.1.1.1
    apply Array.ext
    ·rw [Fz,hls,hsz]
    ·intro k hk1 hk2
     have e1:lst.getD k true=lst[k]:=by simp [Array.getD_eq_getD_getElem?,hk1]
     have e2:(B.foldl (fun l i=>l.setIfInBounds i true) listed).getD k true=(B.foldl (fun l i=>l.setIfInBounds i true) listed)[k]:=by simp [Array.getD_eq_getD_getElem?,hk2]
     rw [← e1,← e2,Gm B listed hlt k (by rw [hsz]; omega)]
     rw [Bool.eq_iff_iff,hlst k (by omega)]
     simp only [Bool.or_eq_true,List.contains_iff_mem]
     exact ⟨fun h=>h.imp id (hDB k),fun h=>h.imp id (hall k)⟩
   have hlen:D.length=B.length:=by omega
   obtain ⟨ρ',hfin,hs'⟩:=hts.done hall hs hw
   rw [he,hlen]
   exact hfin a w hs' hw
  | succ n ih =>
   intro D lst a w L J hn hDn hDB hls hlst hdn hs hts hw
   have hex:∃ i,i∈B∧i∉D:=by
    refine Classical.byContradiction fun hne=>?_
    have:B.length≤D.length:=Ea hnd fun i hi=>Classical.byContradiction fun hd=>hne ⟨i,hi,hd⟩
    omega
   have hDown:Down ops (fun k=>k < ops.size∧lst.getD k true=true∨ops.size≤k∧lst.getD k false=true):=by
    intro k hk j hj
    have hjl:lst.getD j false=true:=by
     rcases hk with hk | hk
     ·exact hdn k hk.1 hk.2 j hj
     ·exact absurd hk.2 (by simp [Array.getD_eq_getD_getElem?,Array.getElem?_eq_none (show lst.size≤k by omega)])
    rcases Nat.lt_or_ge j ops.size with h | h
    ·exact .inl ⟨h,by rw [Ci (by omega) true false]; exact hjl⟩
    ·exact .inr ⟨h,hjl⟩
   have hbit:∀ k,k < ops.size→(∀ j∈B7 (Bf ops k),lst.getD j false=true)→∀ j,((mks ops.toList []).getD k 0).testBit j=true→j < ops.size→lst.getD j true=true:=by
    intro k hk hb j hj hjs
    cases hm:(mks ops.toList [])[k]? with
    | none=>simp [List.getD,hm] at hj
    | some m =>
     simp only [List.getD,hm,Option.getD_some] at hj
     have:=mks_in hDown ops.toList [] rfl (fun i m hi=>by simp at hi) k m hm (fun j hj=>by
      rcases Nat.lt_or_ge j ops.size with h | h
      ·exact .inl ⟨h,by rw [Ci (by omega) true false]; exact hb j hj⟩
      ·exact .inr ⟨h,hb j hj⟩) j hj
     rcases this with h | h
     ·exact h.2
     ·omega
   have hfu:fuel-D.length=(fuel-(D.length+1))+1:=by omega
   rw [hfu]
   refine ⟨fun h0=>?_,fun i hi=>?_⟩
   ·obtain ⟨i,h1,h2,h3⟩:=Ha hex
    have hBi:=hB i h1
    have:i∈Region.ready .any ops lst:=by
     refine C1.2 ⟨hBi.1.1.1.1.1.1,?_,fun j hj=>?_⟩
     ·rw [← Bool.not_eq_true]
      intro hl
      rcases (hlst i hBi.1.1.1.1.1.1).1 hl with h | h
      ·rw [hBi.1.1.1.1.1.2] at h; cases h
      ·exact h2 h
     ·rcases hBi.1.2 j hj with h | ⟨h,h'⟩
      ·have hjs:j < ops.size:=by
        rcases Nat.lt_or_ge j ops.size with h' | h'
        ·exact h'
        ·simp [Array.getD_eq_getD_getElem?,Array.getElem?_eq_none (show listed.size≤j by omega)] at h
       rw [Ci (by omega) false true]
       exact (hlst j hjs).2 (.inl (by rw [Ci (by omega) true false]; exact h))
      ·have hjs:j < ops.size:=(hB j h).1.1.1.1.1.1
       rw [Ci (by omega) false true]
       exact (hlst j hjs).2 (.inr (h3 j h h'))
    rw [h0] at this
    cases this
   ·obtain ⟨his,hil,hib⟩:=C1.1 hi
    have hiB:i∈B:=by
     rcases hout i his with (h | h) | h
     ·exact h
     ·exact absurd ((hlst i his).2 (.inl h)) (by simp [hil])
     ·exfalso
      obtain ⟨j,hj,hjd⟩:=hex
      have hjs:=(hB j hj).1.1.1.1.1.1
      rcases (hlst j hjs).1 (hbit i his hib j (h j hj) hjs) with h' | h'
      ·rw [(hB j hj).1.1.1.1.1.2] at h'; cases h'
      ·exact hjd h'
    have hiD:i∉D:=fun h=>by
     have:=(hlst i his).2 (.inr h)
     rw [hil] at this; cases this
    have hBi:=hB i hiB
    have hbm:∀ j∈Bd i B,j∈B:=by
     have:∀ {B:List Nat} {j:Nat},j∈Bd i B→j∈B:=by
      intro B
      induction B with
      | nil=>intro j h; cases h
      | cons c B ihB =>
       intro j h
       simp only [Bd] at h
       split at h
       ·cases h
       ·cases h with
        | head=>exact .head _
        | tail _ h=>exact .tail _ (ihB h)
     exact fun j h=>this h
    have hdone:∀ j∈Bd i B,((mks ops.toList []).getD i 0).testBit j=true→j∈D:=by
     intro j hj hb
     have hjB:=hbm j hj
     have hjs:=(hB j hjB).1.1.1.1.1.1
     rcases (hlst j hjs).1 (hbit i his hib j hb hjs) with h | h
     ·rw [(hB j hjB).1.1.1.1.1.2] at h; cases h
     ·exact h
    have ho:ops[i]? = some (Bf ops i):=by simp [Bf,his]
    simp only [wpOpIn,ho]
    have hdi:(Bf ops i).dst=some (Au ops i):=by
     have:=hBi.1.1.1.1.2
     unfold Au
     cases h:(Bf ops i).dst with
     | none=>rw [h] at this; cases this
     | some d=>rfl
    have hinj:∀ j∈B,j≠i→Au ops j≠Au ops i:=by
     intro j hjB hne e
     have:∀ {B:List Nat},(B.map (Au ops)).Nodup→j∈B→i∈B→False:=by
      intro B
      induction B with
      | nil=>intro _ h; cases h
      | cons c B ihB =>
       intro hnn h1 h2
       simp only [List.map_cons,List.nodup_cons] at hnn
       cases h1 with
       | head=>cases h2 with
        | head=>exact hne rfl
        | tail _ h2=>exact hnn.1 (e ▸ List.mem_map.2 ⟨i,h2,rfl⟩)
       | tail _ h1=>cases h2 with
        | head=>exact hnn.1 (e ▸ List.mem_map.2 ⟨j,h1,rfl⟩)
        | tail _ h2=>exact ihB hnn.2 h1 h2
     exact this hdst hjB hiB
    have hst:=TS.step (Q:=Q) hiD hdi hBi.1.1.2 (fun cs b e=>by have:=hBi.1.1.1.2; rw [e] at this; cases this) (fun c e=>by have:=hBi.1.1.1.2; rw [e] at this; cases this) hs.size hs.dfr hts hiB hnd
     (fun j hj=>(hB j hj).1.1.2) hinj
     (fun g hg hgg=>by
      rcases hBi.2 g hg with h | h
      ·exact hdone g hg h
      ·exact absurd hgg (by simp [h.1.1]))
     (fun j hj hr=>by
      rcases hBi.2 j hj with h | h
      ·exact hdone j hj h
      ·exfalso
       rcases hr with hr | ⟨g,b,hg,hd⟩
       ·rw [H3,h.1.2] at hr; cases hr
       ·have:=h.2
        rw [hg] at this
        simp [hd] at this)
     (fun t v hv=>by
      have:=hs.get t v hv
      have:=(Array.getElem?_eq_some_iff.1 this).1
      have:=hs.size
      omega)
     ⟨fun t _ v hv=>hs.get t v hv,fun _ _ d _ _ v hv=>hs.get d v hv⟩ hw
    have hst:=Bs (K':=wpAnyIn (wf C.ro) 0 C.P .any ops Q (fuel-(D.length+1)) (lst.setIfInBounds i true)) ?_ hst
    ·exact hst
    ·rintro a' w' ⟨v,rfl,L',J',hts',hw'⟩
     exact ih (i::D) (lst.setIfInBounds i true) _ w' L' J' (by simp only [List.length_cons]; omega) (List.nodup_cons.2 ⟨hiD,hDn⟩)
      (fun j hj=>by cases hj with
       | head=>exact hiB
       | tail _ h=>exact hDB j h) (by simpa using hls)
      (fun k hk=>by
       rw [Ep (by omega)]
       by_cases h:k=i
       ·subst h; simp
       ·rw [if_neg h,hlst k hk]; simp [h])
      (fun k hk hkl j hj=>by
       rw [Ep (by omega)] at hkl ⊢
       by_cases hji:j=i
       ·rw [if_pos hji]
       ·rw [if_neg hji]
        by_cases h:k=i
        ·subst h; exact hib j hj
        ·rw [if_neg h] at hkl; exact hdn k hk hkl j hj)
      ⟨by simp [Act.put,hs.size],by simp [Act.put,hs.dfr],fun t v' h=>by
       have hne:Au ops i≠t:=by rintro rfl; rw [hfresh i hiB] at h; cases h
       have:=hs.get t v' h
       simp only [Act.put,Array.getElem?_setIfInBounds]
       rw [if_neg hne]; exact this⟩ hts' hw'
 intro a w ha hw
 have:=main B.length [] listed a w l I (by simp) (by simp) (by simp) hsz (by simp) (fun k hk hl j hj=>by
  rcases hdown k hk with h | h
  ·rw [h] at hl; cases hl
  ·exact h j hj) ha (.stop (by simp) k) hw
 simpa using this
theorem Fp {e:A9} (k:KJ C K δ ρ (l++[e]) I):KJ C K δ ρ (e::l) I:=Cn (List.perm_append_comm (l₁:=l) (l₂:=[e])) k
end Go.Chx
namespace Go.Chx
open Go
variable {C:Ctx} {δ:List Deferred} {ρ:Da} {l:List A9} {I:World→Prop} {K:Act→World→Prop} {Q:Exit→Act→World→Prop} {ops:Array Oper}
variable {t:TypeId} {p:String} {af:Array Edge}
theorem spec_same {P:Program} {f:FuncId} {args:List Value} {v:Value} (h:∀ w,Calls P f args.toArray w fun e w'=>e=.returned v∧w'=w):Ay P f args [] (fun _=>True) (fun _:Unit=>⟨True,v,[],fun _=>True⟩):=by
 intro X w hw
 refine (h w).mono ?_
 rintro e w' ⟨rfl,rfl⟩
 exact ⟨(),trivial,rfl,hw⟩
abbrev nv (n:Nat):Value:=.int .u64 (n:Int)
section
variable {tt u:TypeId} {d:Nat} {x y:Operand} {m n:Int}
theorem addN {a b:Nat} (hd:Nat.blt d C.N=true) (hx:Bw ρ x=some (.int .u64 m)) (hy:Bw ρ y=some (.int .u64 n)) (hm:m=(a:Int)) (hn:n=(b:Int)) (hr:a+b < 18446744073709551616) (kk:KJ C K δ ((d,nv (a+b))::ρ) l I) :
  KJ C (Ax C ops ⟨some d,.binOp .add tt x y u,t,p,af,none⟩ K Q) δ ρ l I :=
 Id hd hx hy (by rw [hm,hn,C4 (by omega),← Int.natCast_add]; exact kk)
theorem addM {a b:Nat} (hd:Nat.blt d C.N=true) (hx:Bw ρ x=some (.int .u64 m)) (hy:Bw ρ y=some (.int .u64 n)) (hm:m=(a:Int)) (hn:n=(b:Int)) (kk:KJ C K δ ((d,nv ((a+b) % 18446744073709551616))::ρ) l I) :
  KJ C (Ax C ops ⟨some d,.binOp .add tt x y u,t,p,af,none⟩ K Q) δ ρ l I :=
 Id hd hx hy (by rw [hm,hn,E9,← Int.natCast_add]; exact kk)
theorem subN {a b:Nat} (hd:Nat.blt d C.N=true) (hx:Bw ρ x=some (.int .u64 m)) (hy:Bw ρ y=some (.int .u64 n)) (hm:m=(a:Int)) (hn:n=(b:Int)) (hr:b≤a∧a < 18446744073709551616) (kk:KJ C K δ ((d,nv (a-b))::ρ) l I) :
  KJ C (Ax C ops ⟨some d,.binOp .sub tt x y u,t,p,af,none⟩ K Q) δ ρ l I :=
 subw hd hx hy (by rw [hm,hn,C4 (by omega),← Int.ofNat_sub hr.1]; exact kk)
theorem subM {a b:Nat} (c:Nat) (hd:Nat.blt d C.N=true) (hx:Bw ρ x=some (.int .u64 m)) (hy:Bw ρ y=some (.int .u64 n)) (hm:m=(a:Int)) (hn:n=(b:Int)) (hr:((a:Int)-b) % 18446744073709551616=c) (kk:KJ C K δ ((d,nv c)::ρ) l I) :
  KJ C (Ax C ops ⟨some d,.binOp .sub tt x y u,t,p,af,none⟩ K Q) δ ρ l I :=
 subw hd hx hy (by rw [hm,hn,E9,hr]; exact kk)
theorem mulN {a b:Nat} (hd:Nat.blt d C.N=true) (hx:Bw ρ x=some (.int .u64 m)) (hy:Bw ρ y=some (.int .u64 n)) (hm:m=(a:Int)) (hn:n=(b:Int)) (hr:a*b < 18446744073709551616) (kk:KJ C K δ ((d,nv (a*b))::ρ) l I) :
  KJ C (Ax C ops ⟨some d,.binOp .mul tt x y u,t,p,af,none⟩ K Q) δ ρ l I :=
 mulw hd hx hy (by rw [hm,hn,← Int.natCast_mul,C4 (by omega)]; exact kk)
theorem mulM {a b:Nat} (hd:Nat.blt d C.N=true) (hx:Bw ρ x=some (.int .u64 m)) (hy:Bw ρ y=some (.int .u64 n)) (hm:m=(a:Int)) (hn:n=(b:Int)) (kk:KJ C K δ ((d,nv (a*b % 18446744073709551616))::ρ) l I) :
  KJ C (Ax C ops ⟨some d,.binOp .mul tt x y u,t,p,af,none⟩ K Q) δ ρ l I :=
 mulw hd hx hy (by rw [hm,hn,← Int.natCast_mul,E9]; exact kk)
theorem quoN {a b:Nat} (hd:Nat.blt d C.N=true) (hx:Bw ρ x=some (.int .u64 m)) (hy:Bw ρ y=some (.int .u64 n)) (hm:m=(a:Int)) (hn:n=(b:Int)) (h0:0 < b) (ha:a < 18446744073709551616) (kk:KJ C K δ ((d,nv (a / b))::ρ) l I) :
  KJ C (Ax C ops ⟨some d,.binOp .quo tt x y u,t,p,af,none⟩ K Q) δ ρ l I :=
 quo hd hx hy (by omega) (by
  rw [hm,hn]
  have e:((a:Int).tdiv b)=((a / b:Nat):Int):=by rw [Int.tdiv_eq_ediv_of_nonneg (by omega)]; rfl
  have hle:a / b≤a:=Nat.div_le_self _ _
  rw [e]
  clear e
  generalize a / b=q at hle kk ⊢
  rw [C4 (by omega)]; exact kk)
theorem remN {a b:Nat} (hd:Nat.blt d C.N=true) (hx:Bw ρ x=some (.int .u64 m)) (hy:Bw ρ y=some (.int .u64 n)) (hm:m=(a:Int)) (hn:n=(b:Int)) (h0:0 < b) (kk:KJ C K δ ((d,nv (a % b))::ρ) l I) :
  KJ C (Ax C ops ⟨some d,.binOp .rem tt x y u,t,p,af,none⟩ K Q) δ ρ l I :=
 rem hd hx hy (by omega) (by
  rw [hm,hn]
  have e:((a:Int).tmod b)=((a % b:Nat):Int):=by rw [Int.tmod_eq_emod_of_nonneg (by omega)]; rfl
  rw [e]; exact kk)
theorem shrN {a b:Nat} {j:IntKind} (hd:Nat.blt d C.N=true) (hx:Bw ρ x=some (.int .u64 m)) (hy:Bw ρ y=some (.int j n)) (hm:m=(a:Int)) (hn:n=(b:Int)) (hb:b≤64) (kk:KJ C K δ ((d,nv (a / 2 ^ b))::ρ) l I) :
  KJ C (Ax C ops ⟨some d,.binOp .shr tt x y u,t,p,af,none⟩ K Q) δ ρ l I :=
 shr hd hx hy (by simp only [IntKind.bits]; omega) (by
  rw [hm,hn]
  have e:((a:Int) / 2 ^ (b:Int).toNat)=((a / 2 ^ b:Nat):Int):=by rw [Int.toNat_natCast]; push_cast; rfl
  rw [e]; exact kk)
theorem shlN {a b:Nat} {j:IntKind} (hd:Nat.blt d C.N=true) (hx:Bw ρ x=some (.int .u64 m)) (hy:Bw ρ y=some (.int j n)) (hm:m=(a:Int)) (hn:n=(b:Int)) (hb:b≤64) (kk:KJ C K δ ((d,nv (a*2 ^ b % 18446744073709551616))::ρ) l I) :
  KJ C (Ax C ops ⟨some d,.binOp .shl tt x y u,t,p,af,none⟩ K Q) δ ρ l I :=
 shl hd hx hy (by simp only [IntKind.bits]; omega) (by
  rw [hm,hn,E9]
  have e:((a:Int)*2 ^ (b:Int).toNat)=((a*2 ^ b:Nat):Int):=by rw [Int.toNat_natCast]; push_cast; rfl
  rw [e]; exact kk)
theorem bits_and_nat (a b:Nat) (ha:a < 18446744073709551616) (hb:b < 18446744073709551616):bits .and .u64 (a:Int) (b:Int)=((a &&& b:Nat):Int):=by
 have h1:BitVec.ofInt 64 (a:Int)=BitVec.ofNat 64 a:=by simp
 have h2:BitVec.ofInt 64 (b:Int)=BitVec.ofNat 64 b:=by simp
 show IntKind.wrap .u64 ((BitVec.ofInt 64 (a:Int) &&& BitVec.ofInt 64 (b:Int)).toNat:Int)=_
 rw [h1,h2,← BitVec.ofNat_and,BitVec.toNat_ofNat]
 have:=Nat.and_le_left (n:=a) (m:=b)
 rw [Nat.mod_eq_of_lt (by omega),C4 (by omega)]
theorem bits_or_nat (a b:Nat) (ha:a < 18446744073709551616) (hb:b < 18446744073709551616):bits .or .u64 (a:Int) (b:Int)=((a ||| b:Nat):Int):=by
 have h1:BitVec.ofInt 64 (a:Int)=BitVec.ofNat 64 a:=by simp
 have h2:BitVec.ofInt 64 (b:Int)=BitVec.ofNat 64 b:=by simp
 show IntKind.wrap .u64 ((BitVec.ofInt 64 (a:Int) ||| BitVec.ofInt 64 (b:Int)).toNat:Int)=_
 rw [h1,h2,← BitVec.ofNat_or,BitVec.toNat_ofNat]
 have:a ||| b < 2 ^ 64:=Nat.or_lt_two_pow (by omega) (by omega)
 rw [Nat.mod_eq_of_lt (by omega),C4 (by omega)]
theorem andN {a b:Nat} (hd:Nat.blt d C.N=true) (hx:Bw ρ x=some (.int .u64 m)) (hy:Bw ρ y=some (.int .u64 n)) (hm:m=(a:Int)) (hn:n=(b:Int)) (hr:a < 18446744073709551616∧b < 18446744073709551616) (kk:KJ C K δ ((d,nv (a &&& b))::ρ) l I) :
  KJ C (Ax C ops ⟨some d,.binOp .and tt x y u,t,p,af,none⟩ K Q) δ ρ l I :=
 band hd hx hy (by rw [hm,hn,bits_and_nat a b hr.1 hr.2]; exact kk)
theorem orN {a b:Nat} (hd:Nat.blt d C.N=true) (hx:Bw ρ x=some (.int .u64 m)) (hy:Bw ρ y=some (.int .u64 n)) (hm:m=(a:Int)) (hn:n=(b:Int)) (hr:a < 18446744073709551616∧b < 18446744073709551616) (kk:KJ C K δ ((d,nv (a ||| b))::ρ) l I) :
  KJ C (Ax C ops ⟨some d,.binOp .or tt x y u,t,p,af,none⟩ K Q) δ ρ l I :=
 bor hd hx hy (by rw [hm,hn,bits_or_nat a b hr.1 hr.2]; exact kk)
end
def del (ts:List Nat):Da→Da
 | []=>[]
 | (k,v)::ρ=>cond (ts.any (Nat.beq k)) (del ts ρ) ((k,v)::del ts ρ)
theorem lk_del (ts:List Nat):∀ (ρ:Da) t v,lk (del ts ρ) t=some v→lk ρ t=some v∧ts.any (Nat.beq t)=false
 | [],t,v,h=>by simp [del,lk] at h
 | (k,u)::ρ,t,v,h=>by
  simp only [del] at h
  cases e:ts.any (Nat.beq k) with
  | true =>
   rw [e] at h
   have ih:=lk_del ts ρ t v h
   refine ⟨?_,ih.2⟩
   simp only [lk]
   cases e2:Nat.beq k t with
   | false=>exact ih.1
   | true=>have:=Nat.eq_of_beq_eq_true e2; subst this; rw [ih.2] at e; cases e
  | false =>
   rw [e] at h
   simp only [cond,lk] at h ⊢
   cases e2:Nat.beq k t with
   | false=>rw [e2] at h; exact lk_del ts ρ t v h
   | true=>rw [e2] at h; have:=Nat.eq_of_beq_eq_true e2; subst this; exact ⟨h,e⟩
theorem kj_del (ts:List Nat) (k:KJ C K δ (del ts ρ) l I):KJ C K δ ρ l I:=fun a w ha hw=>k a w (ha.sub fun t v h=>(lk_del ts ρ t v h).1) hw
end Go.Chx
