/- Part of the proof that the law CommitsMembers holds. -/
import Derived.TacticsIn
import Derived.RangeFuncIn
import Derived.RangeFuncLeaves
import Derived.RangeFuncCalls
import Derived.Below
import Derived.WalkKit
namespace Go.Chx
theorem Z {α:Sort _} {a:α}:a=a:=rfl
theorem tR:True:=trivial
theorem Bl {α:Type _} (l:List α):List.Sublist [] l:=List.nil_sublist l
theorem Cu {a0 a1 a2 a3 a4:Prop} (h:a0∧a1∧a2∧a3∧a4):a3:=h.2.2.2.1
theorem Dw {a0 a1 a2 a3 a4 a5:Prop} (h:a0∧a1∧a2∧a3∧a4∧a5):a4:=h.2.2.2.2.1
theorem Ez {a0 a1 a2 a3 a4 a5 a6:Prop} (h:a0∧a1∧a2∧a3∧a4∧a5∧a6):a5:=h.2.2.2.2.2.1
theorem Ec {a0 a1 a2 a3 a4 a5 a6 a7:Prop} (h:a0∧a1∧a2∧a3∧a4∧a5∧a6∧a7):a6:=h.2.2.2.2.2.2.1
theorem Fg {a0 a1 a2 a3 a4 a5 a6 a7 a8:Prop} (h:a0∧a1∧a2∧a3∧a4∧a5∧a6∧a7∧a8):a7:=h.2.2.2.2.2.2.2.1
theorem Gg {a0 a1 a2 a3 a4 a5 a6 a7 a8 a9:Prop} (h:a0∧a1∧a2∧a3∧a4∧a5∧a6∧a7∧a8∧a9):a8:=h.2.2.2.2.2.2.2.2.1
theorem Io {a0 a1 a2 a3 a4 a5 a6 a7 a8 a9 a10:Prop} (h:a0∧a1∧a2∧a3∧a4∧a5∧a6∧a7∧a8∧a9∧a10):a9:=h.2.2.2.2.2.2.2.2.2.1
theorem Ew {a0 a1 a2 a3 a4 a5 a6 a7 a8 a9 a10 a11:Prop} (h:a0∧a1∧a2∧a3∧a4∧a5∧a6∧a7∧a8∧a9∧a10∧a11):a10:=h.2.2.2.2.2.2.2.2.2.2.1
theorem Fh {a0 a1 a2 a3 a4 a5 a6 a7 a8 a9 a10 a11 a12:Prop} (h:a0∧a1∧a2∧a3∧a4∧a5∧a6∧a7∧a8∧a9∧a10∧a11∧a12):a11:=h.2.2.2.2.2.2.2.2.2.2.2.1
theorem Ev {a0 a1 a2 a3 a4 a5 a6 a7 a8 a9 a10 a11 a12 a13:Prop} (h:a0∧a1∧a2∧a3∧a4∧a5∧a6∧a7∧a8∧a9∧a10∧a11∧a12∧a13):a12:=h.2.2.2.2.2.2.2.2.2.2.2.2.1
theorem Jr {a0 a1 a2 a3 a4 a5 a6 a7 a8 a9 a10 a11 a12 a13 a14:Prop} (h:a0∧a1∧a2∧a3∧a4∧a5∧a6∧a7∧a8∧a9∧a10∧a11∧a12∧a13∧a14):a13:=h.2.2.2.2.2.2.2.2.2.2.2.2.2.1
theorem Ij {a0 a1 a2 a3 a4 a5 a6 a7 a8 a9 a10 a11 a12 a13 a14 a15:Prop} (h:a0∧a1∧a2∧a3∧a4∧a5∧a6∧a7∧a8∧a9∧a10∧a11∧a12∧a13∧a14∧a15):a14:=h.2.2.2.2.2.2.2.2.2.2.2.2.2.2.1
theorem pQ15 {a0 a1 a2 a3 a4 a5 a6 a7 a8 a9 a10 a11 a12 a13 a14 a15 a16:Prop} (h:a0∧a1∧a2∧a3∧a4∧a5∧a6∧a7∧a8∧a9∧a10∧a11∧a12∧a13∧a14∧a15∧a16):a15:=h.2.2.2.2.2.2.2.2.2.2.2.2.2.2.2.1
theorem pQ16 {a0 a1 a2 a3 a4 a5 a6 a7 a8 a9 a10 a11 a12 a13 a14 a15 a16 a17:Prop} (h:a0∧a1∧a2∧a3∧a4∧a5∧a6∧a7∧a8∧a9∧a10∧a11∧a12∧a13∧a14∧a15∧a16∧a17):a16:=h.2.2.2.2.2.2.2.2.2.2.2.2.2.2.2.2.1
theorem pQ17 {a0 a1 a2 a3 a4 a5 a6 a7 a8 a9 a10 a11 a12 a13 a14 a15 a16 a17 a18:Prop} (h:a0∧a1∧a2∧a3∧a4∧a5∧a6∧a7∧a8∧a9∧a10∧a11∧a12∧a13∧a14∧a15∧a16∧a17∧a18):a17:=h.2.2.2.2.2.2.2.2.2.2.2.2.2.2.2.2.2.1
theorem pQ18 {a0 a1 a2 a3 a4 a5 a6 a7 a8 a9 a10 a11 a12 a13 a14 a15 a16 a17 a18 a19:Prop} (h:a0∧a1∧a2∧a3∧a4∧a5∧a6∧a7∧a8∧a9∧a10∧a11∧a12∧a13∧a14∧a15∧a16∧a17∧a18∧a19):a18:=h.2.2.2.2.2.2.2.2.2.2.2.2.2.2.2.2.2.2.1
theorem pQ19 {a0 a1 a2 a3 a4 a5 a6 a7 a8 a9 a10 a11 a12 a13 a14 a15 a16 a17 a18 a19 a20:Prop} (h:a0∧a1∧a2∧a3∧a4∧a5∧a6∧a7∧a8∧a9∧a10∧a11∧a12∧a13∧a14∧a15∧a16∧a17∧a18∧a19∧a20):a19:=h.2.2.2.2.2.2.2.2.2.2.2.2.2.2.2.2.2.2.2.1
theorem pQ20 {a0 a1 a2 a3 a4 a5 a6 a7 a8 a9 a10 a11 a12 a13 a14 a15 a16 a17 a18 a19 a20 a21:Prop} (h:a0∧a1∧a2∧a3∧a4∧a5∧a6∧a7∧a8∧a9∧a10∧a11∧a12∧a13∧a14∧a15∧a16∧a17∧a18∧a19∧a20∧a21):a20:=h.2.2.2.2.2.2.2.2.2.2.2.2.2.2.2.2.2.2.2.2.1
theorem pQ21 {a0 a1 a2 a3 a4 a5 a6 a7 a8 a9 a10 a11 a12 a13 a14 a15 a16 a17 a18 a19 a20 a21 a22:Prop} (h:a0∧a1∧a2∧a3∧a4∧a5∧a6∧a7∧a8∧a9∧a10∧a11∧a12∧a13∧a14∧a15∧a16∧a17∧a18∧a19∧a20∧a21∧a22):a21:=h.2.2.2.2.2.2.2.2.2.2.2.2.2.2.2.2.2.2.2.2.2.1
theorem pQ22 {a0 a1 a2 a3 a4 a5 a6 a7 a8 a9 a10 a11 a12 a13 a14 a15 a16 a17 a18 a19 a20 a21 a22 a23:Prop} (h:a0∧a1∧a2∧a3∧a4∧a5∧a6∧a7∧a8∧a9∧a10∧a11∧a12∧a13∧a14∧a15∧a16∧a17∧a18∧a19∧a20∧a21∧a22∧a23):a22:=h.2.2.2.2.2.2.2.2.2.2.2.2.2.2.2.2.2.2.2.2.2.2.1
theorem pQ23 {a0 a1 a2 a3 a4 a5 a6 a7 a8 a9 a10 a11 a12 a13 a14 a15 a16 a17 a18 a19 a20 a21 a22 a23 a24:Prop} (h:a0∧a1∧a2∧a3∧a4∧a5∧a6∧a7∧a8∧a9∧a10∧a11∧a12∧a13∧a14∧a15∧a16∧a17∧a18∧a19∧a20∧a21∧a22∧a23∧a24):a23:=h.2.2.2.2.2.2.2.2.2.2.2.2.2.2.2.2.2.2.2.2.2.2.2.1
theorem pQ24 {a0 a1 a2 a3 a4 a5 a6 a7 a8 a9 a10 a11 a12 a13 a14 a15 a16 a17 a18 a19 a20 a21 a22 a23 a24 a25:Prop} (h:a0∧a1∧a2∧a3∧a4∧a5∧a6∧a7∧a8∧a9∧a10∧a11∧a12∧a13∧a14∧a15∧a16∧a17∧a18∧a19∧a20∧a21∧a22∧a23∧a24∧a25):a24:=h.2.2.2.2.2.2.2.2.2.2.2.2.2.2.2.2.2.2.2.2.2.2.2.2.1
end Go.Chx
namespace Go.Chx
open Go
def wf (ro:Option Nat):Fence:={ fn:=fun _=>True,depth:=none,alive:=false,round:=ro }
def lk:List (Nat × Value)→Nat→Option Value
 | [],_=>none
 | (k,v)::ρ,t=>cond (Nat.beq k t) (some v) (lk ρ t)
def Bw (ρ:List (Nat × Value)):Operand→Option Value
 | .tmp t=>lk ρ t
 | .const v=>some v
 | .global g=>some (.pointer (some ⟨g,0,none⟩))
 | .func f=>some (.func (.func f) #[] #[])
structure Sim (N:Nat) (δ:List Deferred) (ρ:List (Nat × Value)) (a:Act):Prop where
 size:a.tmps.size=N
 dfr:a.defers=δ
 get:∀ t v,lk ρ t=some v→a.tmps[t]? = some v
theorem Sim.ev {N δ ρ} {a:Act} (h:Sim N δ ρ a) {x:Operand} {v:Value} (hx:Bw ρ x=some v):a.eval x=v:=by
 cases x with
 | tmp t=>simp [Act.eval,h.get t v hx]
 | const u=>simp [Bw] at hx; simp [Act.eval,hx]
 | global g=>simp [Bw] at hx; simp [Act.eval,hx]
 | func f=>simp [Bw] at hx; simp [Act.eval,hx]
theorem Sim.put {N δ ρ} {a:Act} (h:Sim N δ ρ a) {d:Nat} (hd:Nat.blt d N=true) (v:Value):Sim N δ ((d,v)::ρ) (a.put (some d) v):=by
 have hd':d < N:=by simpa [Nat.blt_eq] using hd
 refine ⟨by simp [Act.put,h.size],by simp [Act.put,h.dfr],fun t u ht=>?_⟩
 simp only [lk] at ht
 by_cases e:d=t
 ·subst e
  simp at ht
  subst ht
  simp [Act.put,h.size,hd']
 ·have:Nat.beq d t=false:=by
   cases hb:Nat.beq d t with
   | false=>rfl
   | true=>exact absurd (Nat.eq_of_beq_eq_true hb) e
  rw [this] at ht
  have:=h.get t u ht
  simp [Act.put,e,this]
theorem Sim.none {N δ ρ} {a:Act} (h:Sim N δ ρ a) (v:Value):Sim N δ ρ (a.put none v):=h
theorem Sim.sub {N δ ρ ρ'} {a:Act} (h:Sim N δ ρ a) (hs:∀ t v,lk ρ' t=some v→lk ρ t=some v):Sim N δ ρ' a :=
 ⟨h.size,h.dfr,fun t v hv=>h.get t v (hs t v hv)⟩
structure Ext (M:Nat→Prop) (w w':World):Prop where
 os:w'.os=w.os
 tape:w'.tape=w.tape
 output:w'.output=w.output
 size:w.heap.size≤w'.heap.size
 block:∀ b,b < w.heap.size→¬ M b→w'.heap[b]? = w.heap[b]?
theorem Ext.refl (M:Nat→Prop) (w:World):Ext M w w:=⟨rfl,rfl,rfl,Nat.le_refl _,fun _ _ _=>rfl⟩
theorem Ext.trans {M:Nat→Prop} {a b c:World} (h:Ext M a b) (k:Ext M b c):Ext M a c :=
 ⟨k.os.trans h.os,k.tape.trans h.tape,k.output.trans h.output,Nat.le_trans h.size k.size,fun i hi hm=>(k.block i (Nat.lt_of_lt_of_le hi h.size) hm).trans (h.block i hi hm)⟩
theorem Ext.mono {M M':Nat→Prop} {a b:World} (h:Ext M a b) (hm:∀ x,x < a.heap.size→M x→M' x):Ext M' a b :=
 ⟨h.os,h.tape,h.output,h.size,fun i hi hn=>h.block i hi (fun x=>hn (hm i hi x))⟩
theorem Du {w:World} {r:Nat} {o:Obj} (h:w.heap[r]? = some o):r < w.heap.size:=by
 rcases Nat.lt_or_ge r w.heap.size with h' | h'
 ·exact h'
 ·rw [Array.getElem?_eq_none h'] at h; cases h
def Ck (X:Nat→Prop) (I:World→Prop) (w:World):Prop :=
 ∃ S:Nat→Prop,(∀ b,S b→b < w.heap.size∧¬ X b)∧∀ w':World,(∀ b,S b→w'.heap[b]? = w.heap[b]?)→I w'
theorem Ck.holds {X I w} (h:Ck X I w):I w:=let ⟨_,_,h⟩:=h; h w fun _ _=>rfl
theorem Ck.mono {X} {I J:World→Prop} {w} (h:Ck X I w) (hij:∀ w,I w→J w):Ck X J w :=
 let ⟨S,h1,h2⟩:=h; ⟨S,h1,fun w' hw=>hij _ (h2 w' hw)⟩
theorem Ck.and {X} {I J:World→Prop} {w} (h:Ck X I w) (k:Ck X J w):Ck X (fun w=>I w∧J w) w:=by
 obtain ⟨S,h1,h2⟩:=h
 obtain ⟨T,k1,k2⟩:=k
 exact ⟨fun b=>S b∨T b,fun b hb=>hb.elim (h1 b) (k1 b),fun w' hw=>⟨h2 w' fun b hb=>hw b (.inl hb),k2 w' fun b hb=>hw b (.inr hb)⟩⟩
theorem Ck.weaken {X X':Nat→Prop} {I w} (h:Ck X I w) (hx:∀ b,b < w.heap.size→X' b→X b):Ck X' I w :=
 let ⟨S,h1,h2⟩:=h; ⟨S,fun b hb=>⟨(h1 b hb).1,fun hx'=>(h1 b hb).2 (hx b (h1 b hb).1 hx')⟩,h2⟩
theorem Ck.step {X:Nat→Prop} {I} {w w':World} (h:Ck X I w) (hs:w.heap.size≤w'.heap.size) (hb:∀ b,b < w.heap.size→¬ X b→w'.heap[b]? = w.heap[b]?):Ck X I w':=by
 obtain ⟨S,h1,h2⟩:=h
 exact ⟨S,fun b hb'=>⟨Nat.lt_of_lt_of_le (h1 b hb').1 hs,(h1 b hb').2⟩,fun w'' hw=>h2 w'' fun b hb'=>(hw b hb').trans (hb b (h1 b hb').1 (h1 b hb').2)⟩
theorem Ck.pure {X:Nat→Prop} {p:Prop} (h:p) (w:World):Ck X (fun _=>p) w:=⟨fun _=>False,fun _ h=>h.elim,fun _ _=>h⟩
theorem Ck.blk {X:Nat→Prop} {w:World} {r:Nat} {o:Obj} (h:w.heap[r]? = some o) (hx : ¬ X r):Ck X (fun w=>w.heap[r]? = some o) w :=
 ⟨fun b=>b=r,fun b hb=>by subst hb; exact ⟨Du h,hx⟩,fun w' hw=>(hw r rfl).trans h⟩
theorem Ck.of {X:Nat→Prop} {I:World→Prop} {w:World} (S:Nat→Prop) (h1:∀ b,S b→b < w.heap.size∧¬ X b) (h2:∀ w':World,(∀ b,S b→w'.heap[b]? = w.heap[b]?)→I w'):Ck X I w:=⟨S,h1,h2⟩
abbrev A9:=Option (Nat × Obj)
def keys:List A9→List Nat
 | []=>[]
 | none::l=>keys l
 | some (r,_)::l=>r::keys l
theorem Jh {l:List A9} {r:Nat}:r∈keys l↔∃ o,some (r,o)∈l:=by
 induction l with
 | nil=>simp [keys]
 | cons e l ih =>
  cases e with
  | none=>simp [keys,ih]
  | some p =>
   obtain ⟨k,o⟩:=p
   simp only [keys,List.mem_cons,ih,Option.some.injEq,Prod.mk.injEq]
   constructor
   ·rintro (rfl | ⟨o',h⟩)
    ·exact ⟨o,.inl ⟨rfl,rfl⟩⟩
    ·exact ⟨o',.inr h⟩
   ·rintro ⟨o',⟨rfl,-⟩ | h⟩
    ·exact .inl rfl
    ·exact .inr ⟨o',h⟩
structure Ctx where
 P:Program
 N:Nat
 ro:Option Nat
 X:Nat→Prop
 M:Nat→Prop
 w0:World
structure WSat (X M:Nat→Prop) (w0:World) (l:List A9) (I:World→Prop) (w:World):Prop where
 lowX:∀ b,X b→b < w0.heap.size
 ext:Ext M w0 w
 nodup:(keys l).Nodup
 own:∀ r o,some (r,o)∈l→w.heap[r]? = some o
 ownX:∀ r,r∈keys l→¬ X r
 ownM:∀ r,r∈keys l→M r∨w0.heap.size≤r
 fr:Ck (fun b=>X b∨b∈keys l) I w
theorem WSat.lt {X M w0 l I w} (h:WSat X M w0 l I w) {r:Nat} (hr:r∈keys l):r < w.heap.size:=by
 obtain ⟨o,ho⟩:=Jh.1 hr
 exact Du (h.own r o ho)
inductive Upd {α:Type}:List α→α→α→List α→Prop
 | head {e e':α} {l:List α}:Upd (e::l) e e' (e'::l)
 | tail {e e' x:α} {l l':List α}:Upd l e e' l'→Upd (x::l) e e' (x::l')
theorem Upd.mem {α} {l l':List α} {e e':α} (h:Upd l e e' l'):e∈l:=by
 induction h with
 | head=>exact .head _
 | tail _ ih=>exact .tail _ ih
theorem Upd.keys_same {l l':List A9} {r:Nat} {o o':Obj} (h:Upd l (some (r,o)) (some (r,o')) l'):keys l'=keys l:=by
 generalize he:(some (r,o):A9)=e at h
 generalize he':(some (r,o'):A9)=e' at h
 induction h with
 | head=>subst he; subst he'; rfl
 | @tail e e' x l l' h ih =>
  have:=ih he he'
  cases x with
  | none=>simpa [keys] using this
  | some p=>simp [keys,this]
theorem Upd.other {l l':List A9} {r:Nat} {o:Obj} {e':A9} (h:Upd l (some (r,o)) e' l') (hn:(keys l).Nodup) :
  ∀ r' o',some (r',o')∈l'→some (r',o')=e'∨(r'≠r∧some (r',o')∈l):=by
 generalize he:(some (r,o):A9)=e at h
 induction h with
 | head =>
  subst he
  intro r' o' hm
  cases hm with
  | head=>exact .inl rfl
  | tail _ hm =>
   refine .inr ⟨fun hr=>?_,.tail _ hm⟩
   subst hr
   simp only [keys,List.nodup_cons] at hn
   exact hn.1 (Jh.2 ⟨o',hm⟩)
 | @tail e e' x l l' h ih =>
  intro r' o' hm
  cases hm with
  | head =>
   by_cases hr:r'=r
   ·subst hr
    subst he
    simp only [keys,List.nodup_cons] at hn
    exact absurd (Jh.2 ⟨_,h.mem⟩) hn.1
   ·exact .inr ⟨hr,.head _⟩
  | tail _ hm =>
   have hn':(keys l).Nodup:=by
    cases x with
    | none=>simpa [keys] using hn
    | some p=>obtain ⟨k,o⟩:=p; simp only [keys,List.nodup_cons] at hn; exact hn.2
   exact (ih hn' he r' o' hm).imp id fun ⟨h1,h2⟩=>⟨h1,.tail _ h2⟩
theorem WSat.upd {X M w0 l l' I} {w w':World} {r:Nat} {o o':Obj} (h:WSat X M w0 l I w) (hu:Upd l (some (r,o)) (some (r,o')) l')
  (hsz:w'.heap.size=w.heap.size) (hr:w'.heap[r]? = some o') (hb:∀ b,b≠r→w'.heap[b]? = w.heap[b]?)
  (h1:w'.os=w.os) (h2:w'.tape=w.tape) (h3:w'.output=w.output):WSat X M w0 l' I w':=by
 have hk:=hu.keys_same
 have hrl:r∈keys l:=Jh.2 ⟨_,hu.mem⟩
 refine ⟨h.lowX,?_,by rw [hk]; exact h.nodup,?_,by rw [hk]; exact h.ownX,by rw [hk]; exact h.ownM,?_⟩
 ·refine ⟨h1.trans h.ext.os,h2.trans h.ext.tape,h3.trans h.ext.output,by rw [hsz]; exact h.ext.size,fun b hb' hm=>?_⟩
  have:b≠r:=by
   rintro rfl
   rcases h.ownM b hrl with h' | h'
   ·exact hm h'
   ·omega
  rw [hb b this]
  exact h.ext.block b hb' hm
 ·intro r' o'' hm
  rcases hu.other h.nodup r' o'' hm with e | ⟨hne,hm⟩
  ·cases e; exact hr
  ·rw [hb r' hne]; exact h.own r' o'' hm
 ·rw [hk]
  exact h.fr.step (by omega) fun b _ hx=>hb b (by rintro rfl; exact hx (.inr hrl))
theorem WSat.push {X M w0 l I} {w w':World} {o:Obj} (h:WSat X M w0 l I w)
  (hh:w'.heap=w.heap.push o) (h1:w'.os=w.os) (h2:w'.tape=w.tape) (h3:w'.output=w.output):WSat X M w0 (some (w.heap.size,o)::l) I w':=by
 have hlt:∀ b,b < w.heap.size→w'.heap[b]? = w.heap[b]?:=fun b hb=>by rw [hh,Array.getElem?_push,if_neg (by omega)]
 have hsz:w'.heap.size=w.heap.size+1:=by rw [hh]; simp
 refine ⟨h.lowX,?_,?_,?_,?_,?_,?_⟩
 ·exact ⟨h1.trans h.ext.os,h2.trans h.ext.tape,h3.trans h.ext.output,by have:=h.ext.size; omega,fun b hb hm=>by
   rw [hlt b (by have:=h.ext.size; omega)]; exact h.ext.block b hb hm⟩
 ·simp only [keys,List.nodup_cons]
  exact ⟨fun hm=>by have:=h.lt hm; omega,h.nodup⟩
 ·intro r o' hm
  cases hm with
  | head=>rw [hh]; simp
  | tail _ hm=>rw [hlt r (Du (h.own r o' hm))]; exact h.own r o' hm
 ·intro r hr
  simp only [keys,List.mem_cons] at hr
  rcases hr with rfl | hr
  ·intro hx; have:=h.lowX _ hx; have:=h.ext.size; omega
  ·exact h.ownX r hr
 ·intro r hr
  simp only [keys,List.mem_cons] at hr
  rcases hr with rfl | hr
  ·exact .inr h.ext.size
  ·exact h.ownM r hr
 ·refine Ck.step (Ck.weaken h.fr ?_) (by omega) fun b hb _=>hlt b hb
  intro b hb hx
  rcases hx with hx | hx
  ·exact .inl hx
  ·simp only [keys,List.mem_cons] at hx
   rcases hx with rfl | hx
   ·omega
   ·exact .inr hx
end Go.Chx
namespace Go.Chx
open Go
abbrev Da:=List (Nat × Value)
def KJ (C:Ctx) (K:Act→World→Prop) (δ:List Deferred) (ρ:Da) (l:List A9) (I:World→Prop):Prop :=
 ∀ a w,Sim C.N δ ρ a→WSat C.X C.M C.w0 l I w→K a w
abbrev cw (C:Ctx) (c:Code) (Q:Exit→Act→World→Prop):Act→World→Prop:=c.wpIn (wf C.ro) 0 C.P Q
abbrev lw (C:Ctx) (ops:Array Oper) (Q:Exit→Act→World→Prop) (l:List Oper):Act→World→Prop:=wpListIn (wf C.ro) 0 C.P ops Q l
def Ax (C:Ctx) (ops:Array Oper) (o:Oper) (K:Act→World→Prop) (Q:Exit→Act→World→Prop) (a:Act) (w:World):Prop :=
 if Region.wanted o (yielded ops a.tmps) then o.wpIn (wf C.ro) 0 C.P a w K Q
 else (∀ f,o.about C.P w a.eval=some f→(wf C.ro).fn f)∧K (a.put o.dst undef) w
variable {C:Ctx} {δ:List Deferred} {ρ:Da} {l:List A9} {I:World→Prop} {K:Act→World→Prop} {Q:Exit→Act→World→Prop} {ops:Array Oper}
theorem oj {o:Oper} {rest:List Oper} (h:KJ C (Ax C ops o (lw C ops Q rest) Q) δ ρ l I):KJ C (lw C ops Q (o::rest)) δ ρ l I:=h
theorem on (h:KJ C (Q .normal) δ ρ l I):KJ C (lw C ops Q []) δ ρ l I:=h
theorem Aa {id:Nat} {os:List Oper} (h:KJ C (lw C os.toArray Q os) δ ρ l I):KJ C (cw C (.region id os.toArray false) Q) δ ρ l I :=
 fun a w ha hw=>wpIn_region_lit (h a w ha hw)
theorem Ab {x y:Code} (h:KJ C (cw C x (Exit.then (cw C y Q) Q)) δ ρ l I):KJ C (cw C (.seq x y) Q) δ ρ l I :=
 fun a w ha hw=>wpIn_seq (h a w ha hw)
theorem Ah (h:KJ C (Q .normal) δ ρ l I):KJ C (cw C .skip Q) δ ρ l I:=fun a w ha hw=>wpIn_skip (h a w ha hw)
theorem Af (h:KJ C (Q .ret) δ ρ l I):KJ C (cw C .ret Q) δ ρ l I:=fun a w ha hw=>wpIn_ret (h a w ha hw)
theorem A1 {id:Nat} (h:KJ C (Q (.exit id)) δ ρ l I):KJ C (cw C (.exit id) Q) δ ρ l I:=fun a w ha hw=>wpIn_exit (h a w ha hw)
theorem Ag {id:Nat} {c:Code} (h:KJ C (cw C c (Exit.inBlock id Q)) δ ρ l I):KJ C (cw C (.block id c) Q) δ ρ l I:=by
 intro a w ha hw
 exact wpIn_block (h a w ha hw)
theorem Ap {c:Operand} {x y:Code} {b:Bool} (hc:Bw ρ c=some (.bool b)) (ht:b=true→KJ C (cw C x Q) δ ρ l I) (hf:b=false→KJ C (cw C y Q) δ ρ l I) :
  KJ C (cw C (.cond c x y) Q) δ ρ l I:=by
 intro a w ha hw
 cases b with
 | true=>exact wpIn_cond_true (ha.ev hc) (ht rfl a w ha hw)
 | false=>exact wpIn_cond_false (ha.ev hc) (hf rfl a w ha hw)
theorem qn {N:Act→World→Prop} (h:KJ C N δ ρ l I):KJ C (Exit.then N Q .normal) δ ρ l I:=h
theorem qr {N:Act→World→Prop} (h:KJ C (Q .ret) δ ρ l I):KJ C (Exit.then N Q .ret) δ ρ l I:=h
theorem qe {N:Act→World→Prop} {id:Nat} (h:KJ C (Q (.exit id)) δ ρ l I):KJ C (Exit.then N Q (.exit id)) δ ρ l I:=h
theorem bn {id:Nat} (h:KJ C (Q .normal) δ ρ l I):KJ C (Exit.inBlock id Q .normal) δ ρ l I:=h
theorem br {id:Nat} (h:KJ C (Q .ret) δ ρ l I):KJ C (Exit.inBlock id Q .ret) δ ρ l I:=h
theorem be {id:Nat} (h:KJ C (Q .normal) δ ρ l I):KJ C (Exit.inBlock id Q (.exit id)) δ ρ l I:=by
 intro a w ha hw; simp only [Exit.inBlock,if_true]; exact h a w ha hw
theorem bo {id id':Nat} (hne:Nat.beq id' id=false) (h:KJ C (Q (.exit id')) δ ρ l I):KJ C (Exit.inBlock id Q (.exit id')) δ ρ l I:=by
 intro a w ha hw
 have:id'≠id:=by rintro rfl; simp at hne
 simp only [Exit.inBlock,this,if_false]; exact h a w ha hw
def incl:Da→Da→Prop
 | [],_=>True
 | (t,v)::r,ρ=>lk ρ t=some v∧incl r ρ
theorem incl_lk {ρ' ρ:Da} (h:incl ρ' ρ):∀ t v,lk ρ' t=some v→lk ρ t=some v:=by
 induction ρ' with
 | nil=>intro t v ht; simp [lk] at ht
 | cons p r ih =>
  obtain ⟨k,u⟩:=p
  intro t v ht
  simp only [lk] at ht
  cases hb:Nat.beq k t with
  | true =>
   rw [hb] at ht
   have:=Nat.eq_of_beq_eq_true hb
   subst this
   simp at ht
   subst ht
   exact h.1
  | false=>rw [hb] at ht; exact ih h.2 t v ht
theorem WSat.imp {X M w0} {J:World→Prop} {w} (h:WSat X M w0 l I w) (hi:∀ w,I w→J w):WSat X M w0 l J w :=
 ⟨h.lowX,h.ext,h.nodup,h.own,h.ownX,h.ownM,h.fr.mono hi⟩
theorem keys_sublist {l' l:List A9} (h:l'.Sublist l):(keys l').Sublist (keys l):=by
 induction h with
 | slnil=>exact .slnil
 | @cons l1 l2 e h ih=>cases e with
  | none=>exact ih
  | some p=>exact .cons _ ih
 | @cons_cons l1 l2 e h ih=>cases e with
  | none=>exact ih
  | some p=>exact .cons_cons _ ih
theorem WSat.sub {X M w0} {l':List A9} {w} (h:WSat X M w0 l I w) (hl:l'.Sublist l):WSat X M w0 l' I w:=by
 have hk:=keys_sublist hl
 exact ⟨h.lowX,h.ext,h.nodup.sublist hk,fun r o hm=>h.own r o (hl.subset hm),fun r hr=>h.ownX r (hk.subset hr),fun r hr=>h.ownM r (hk.subset hr),
  h.fr.weaken fun b _ hx=>hx.imp id (fun hb=>hk.subset hb)⟩
theorem keys_perm {l' l:List A9} (h:l'.Perm l):(keys l').Perm (keys l):=by
 induction h with
 | nil=>exact .refl _
 | cons e _ ih=>cases e with
  | none=>exact ih
  | some p=>exact .cons _ ih
 | swap a b l=>cases a with
  | none=>cases b with
   | none=>exact .refl _
   | some q=>exact .refl _
  | some p=>cases b with
   | none=>exact .refl _
   | some q=>exact .swap _ _ _
 | trans _ _ ih1 ih2=>exact ih1.trans ih2
theorem WSat.perm {X M w0} {l':List A9} {w} (h:WSat X M w0 l I w) (hl:l'.Perm l):WSat X M w0 l' I w:=by
 have hk:=keys_perm hl
 exact ⟨h.lowX,h.ext,hk.nodup_iff.2 h.nodup,fun r o hm=>h.own r o (hl.mem_iff.1 hm),fun r hr=>h.ownX r (hk.mem_iff.1 hr),fun r hr=>h.ownM r (hk.mem_iff.1 hr),
  h.fr.weaken fun b _ hx=>hx.imp id (fun hb=>hk.mem_iff.1 hb)⟩
theorem kj_env {ρ':Da} (hr:incl ρ' ρ) (k:KJ C K δ ρ' l I):KJ C K δ ρ l I:=fun a w ha hw=>k a w (ha.sub (incl_lk hr)) hw
theorem Ae {J:World→Prop} (hi:∀ w,I w→J w) (k:KJ C K δ ρ l J):KJ C K δ ρ l I:=fun a w ha hw=>k a w ha (hw.imp hi)
theorem kj_sub {l':List A9} (hl:l'.Sublist l) (k:KJ C K δ ρ l' I):KJ C K δ ρ l I:=fun a w ha hw=>k a w ha (hw.sub hl)
theorem Cn {l':List A9} (hl:l'.Perm l) (k:KJ C K δ ρ l' I):KJ C K δ ρ l I:=fun a w ha hw=>k a w ha (hw.perm hl)
theorem Iv {p:Prop} (hi:∀ w,I w→p) (k:p→KJ C K δ ρ l I):KJ C K δ ρ l I:=fun a w ha hw=>k (hi w hw.fr.holds) a w ha hw
theorem kj_pub {r:Nat} {o:Obj} {l':List A9} (hl:l.Perm (some (r,o)::l')) (k:KJ C K δ ρ l' (fun w=>w.heap[r]? = some o∧I w)):KJ C K δ ρ l I:=by
 intro a w ha hw
 refine k a w ha ?_
 have hw:=hw.perm hl.symm
 have hr:w.heap[r]? = some o:=hw.own r o (.head _)
 have hs:=hw.sub (l':=l') (.cons _ (List.Sublist.refl _))
 refine ⟨hs.lowX,hs.ext,hs.nodup,hs.own,hs.ownX,hs.ownM,(Ck.blk hr ?_).and hs.fr⟩
 have hn:=hw.nodup
 simp only [keys,List.nodup_cons] at hn
 have hx:=hw.ownX r (by simp [keys])
 exact fun h=>h.elim hx hn.1
theorem least_of {p:Nat→Prop} (h:∃ n,p n):∃ n,p n∧∀ m,p m→n≤m:=by
 obtain ⟨n,hn⟩:=h
 induction n using Nat.strongRecOn with
 | _ n ih =>
  by_cases hm:∃ m,m < n∧p m
  ·obtain ⟨m,hlt,hp⟩:=hm
   exact ih m hlt hp
  ·exact ⟨n,hn,fun m hp=>by
    rcases Nat.lt_or_ge m n with h | h
    ·exact absurd ⟨m,h,hp⟩ hm
    ·exact h⟩
structure Hd where
 p:Prop
 ρ:Da
 l:List A9
 I:World→Prop
 μ:Nat
def Hd.at (C:Ctx) (δ:List Deferred) (h:Hd) (a:Act) (w:World):Prop:=h.p∧Sim C.N δ h.ρ a∧WSat C.X C.M C.w0 h.l h.I w
def roundK (C:Ctx) (δ:List Deferred) {α:Type} (st:α→Hd) (m:Nat) (a:Act) (w:World):Prop:=∃ x,(st x).μ < m∧(st x).at C δ a w
theorem cj_loop {α:Type} (st:α→Hd) {c:Code}
  (h0:∀ a w,Sim C.N δ ρ a→WSat C.X C.M C.w0 l I w→∃ x,(st x).at C δ a w)
  (round:∀ x,(st x).p→KJ C (cw C c (Exit.then (roundK C δ st (st x).μ) Q)) δ (st x).ρ (st x).l (st x).I) :
  KJ C (cw C (.loop c) Q) δ ρ l I:=by
 intro a w ha hw
 have hle:∀ (a:Act) (w:World),(∃ x,(st x).at C δ a w)→∃ n,(∃ x,(st x).at C δ a w∧(st x).μ=n)∧∀ m,(∃ x,(st x).at C δ a w∧(st x).μ=m)→n≤m :=
  fun a w ⟨x,hx⟩=>least_of ⟨_,x,hx,rfl⟩
 let μ:Act→World→Nat:=fun a w=>open Classical in if h:∃ x,(st x).at C δ a w then Classical.choose (hle a w h) else 0
 refine wpIn_loop (fun a w=>∃ x,(st x).at C δ a w) μ (h0 a w ha hw) ?_
 intro a w hI
 have hμ:μ a w=Classical.choose (hle a w hI):=by simp only [μ]; rw [dif_pos hI]
 obtain ⟨⟨x,hx,hxm⟩,_⟩:=Classical.choose_spec (hle a w hI)
 refine wpIn_mono (round x hx.1 a w hx.2.1 hx.2.2) ?_
 intro e a' w' hq
 cases e with
 | normal =>
  obtain ⟨x',hlt,hat⟩:=hq
  refine ⟨⟨x',hat⟩,?_⟩
  have hI':∃ x,(st x).at C δ a' w':=⟨x',hat⟩
  have hμ':μ a' w'=Classical.choose (hle a' w' hI'):=by simp only [μ]; rw [dif_pos hI']
  rw [hμ,hμ',← hxm]
  exact Nat.lt_of_le_of_lt ((Classical.choose_spec (hle a' w' hI')).2 _ ⟨x',hat,rfl⟩) hlt
 | exit id=>exact hq
 | goto l=>exact hq
 | ret=>exact hq
 | panic ch=>exact hq
 | outgrown=>exact hq
theorem hd_at {α:Type} (st:α→Hd) (x:α) {a:Act} {w:World} (ha:Sim C.N δ ρ a) (hw:WSat C.X C.M C.w0 l I w)
  (hp:(st x).p) (hρ:incl (st x).ρ ρ) (hl:(st x).l.Sublist l) (hI:∀ w,I w→(st x).I w):(st x).at C δ a w :=
 ⟨hp,ha.sub (incl_lk hρ),(hw.sub hl).imp hI⟩
theorem Aw {α:Type} (st:α→Hd) (x:α) {c:Code}
  (hp:(st x).p) (hρ:incl (st x).ρ ρ) (hl:(st x).l.Sublist l) (hI:∀ w,I w→(st x).I w)
  (round:∀ x,(st x).p→KJ C (cw C c (Exit.then (roundK C δ st (st x).μ) Q)) δ (st x).ρ (st x).l (st x).I) :
  KJ C (cw C (.loop c) Q) δ ρ l I:=cj_loop st (fun _ _ ha hw=>⟨x,hd_at st x ha hw hp hρ hl hI⟩) round
theorem Ar {α:Type} {st:α→Hd} {m:Nat} (x:α) (hm:(st x).μ < m) (hp:(st x).p) (hρ:incl (st x).ρ ρ) (hl:(st x).l.Sublist l) (hI:∀ w,I w→(st x).I w) :
  KJ C (roundK C δ st m) δ ρ l I:=fun _ _ ha hw=>⟨x,hm,hd_at st x ha hw hp hρ hl hI⟩
def midK (C:Ctx) (δ:List Deferred) {α:Type} (st:α→Hd) (a:Act) (w:World):Prop:=∃ x,(st x).at C δ a w
theorem Jo {α:Type} (st:α→Hd) {c:Code} {N:Act→World→Prop} (h1:KJ C (cw C c (Exit.then (midK C δ st) Q)) δ ρ l I) (h2:∀ x,(st x).p→KJ C N δ (st x).ρ (st x).l (st x).I) :
  KJ C (cw C c (Exit.then N Q)) δ ρ l I:=by
 intro a w ha hw
 refine wpIn_mono (h1 a w ha hw) ?_
 intro e a' w' hq
 cases e with
 | normal=>obtain ⟨x,hp,hs,hw'⟩:=hq; exact h2 x hp a' w' hs hw'
 | exit id=>exact hq
 | goto l=>exact hq
 | ret=>exact hq
 | panic ch=>exact hq
 | outgrown=>exact hq
theorem Dm {α:Type} {st:α→Hd} (x:α) (hp:(st x).p) (hρ:incl (st x).ρ ρ) (hl:(st x).l.Sublist l) (hI:∀ w,I w→(st x).I w) :
  KJ C (midK C δ st) δ ρ l I:=fun _ _ ha hw=>⟨x,hd_at st x ha hw hp hρ hl hI⟩
structure Out where
 p:Prop
 v:Value
 l:List A9
 J:World→Prop
def Post (X:Nat→Prop) (lin:List A9) (w:World) {α:Type} (out:α→Out) (e:Ending) (w':World):Prop :=
 ∃ x,(out x).p∧e=.returned (out x).v∧WSat X (·∈keys lin) w (out x).l (out x).J w'
def Ay (P:Program) (f:FuncId) (args:List Value) (lin:List A9) (I:World→Prop) {α:Type} (out:α→Out):Prop :=
 ∀ (X:Nat→Prop) (w:World),WSat X (·∈keys lin) w lin I w→Calls P f args.toArray w (Post X lin w out)
def argEnv:Nat→List Value→Da
 | _,[]=>[]
 | k,v::vs=>(k,v)::argEnv (k+1) vs
theorem lk_argEnv (vs:List Value):∀ k t v,lk (argEnv k vs) t=some v→k≤t∧vs[t-k]? = some v:=by
 induction vs with
 | nil=>intro k t v h; simp [argEnv,lk] at h
 | cons u vs ih =>
  intro k t v h
  simp only [argEnv,lk] at h
  cases hb:Nat.beq k t with
  | true =>
   rw [hb] at h
   have:=Nat.eq_of_beq_eq_true hb
   subst this
   simp at h
   subst h
   simp
  | false =>
   rw [hb] at h
   obtain ⟨h1,h2⟩:=ih (k+1) t v h
   refine ⟨by omega,?_⟩
   have e:t-k=(t-(k+1))+1:=by omega
   rw [e]; simpa using h2
theorem sim_enter (vs:List Value) (n:Nat) (hn:Nat.ble vs.length n=true) :
  Sim n [] (argEnv 0 vs) { tmps:=vs.toArray++Array.replicate (n-vs.toArray.size) undef,defers:=[] }:=by
 have hn':vs.length≤n:=by simpa using hn
 refine ⟨by simp; omega,rfl,fun t v h=>?_⟩
 obtain ⟨_,h2⟩:=lk_argEnv vs 0 t v h
 simp only [Nat.sub_zero] at h2
 have hlt:t < vs.length:=(List.getElem?_eq_some_iff.1 h2).1
 rw [Array.getElem?_append_left (by simpa using hlt)]
 simpa using h2
abbrev ctx (P:Program) (N:Nat) (X:Nat→Prop) (lin:List A9) (w:World):Ctx:={ P,N,ro:=none,X,M:=(·∈keys lin),w0:=w }
theorem Aj {P:Program} {f:FuncId} {fn:Func} {c:Code} {args:List Value} {lin:List A9} {I:World→Prop} {α:Type} {out:α→Out}
  (hf:P.funcs[f]? = some fn) (hb:fn.body=some c) (hn:Nat.ble args.length fn.ntmps=true)
  (h:∀ X w,KJ (ctx P fn.ntmps X lin w) (cw (ctx P fn.ntmps X lin w) c (bodyPost P fn (Post X lin w out))) [] (argEnv 0 args) lin I) :
  Ay P f args lin I out:=by
 intro X w hw
 have:=callsIn_of_wp (F:=wf none) (n:=0) (P:=P) (R:=Post X lin w out) hf hb trivial (h X w _ w (sim_enter args fn.ntmps hn) hw) rfl
 exact (callsIn_wide (n:=0)).1 this
theorem Dv {P:Program} {f:FuncId} {fn:Func} {c:Code} {args:List Value} {lin:List A9} {I:World→Prop} {α:Type} {out:α→Out}
  (hf:P.funcs[f]? = some fn) (hb:fn.body=some c) (hn:Nat.ble args.length fn.ntmps=true)
  (h:∀ X w,KJ (ctx P fn.ntmps X lin w) (cw (ctx P fn.ntmps X lin w) c (bodyPostM (wf none) 0 P fn (Post X lin w out))) [] (argEnv 0 args) lin I) :
  Ay P f args lin I out:=by
 intro X w hw
 have:=callsIn_of_wp_marks (F:=wf none) (n:=0) (P:=P) (R:=Post X lin w out) hf hb trivial (h X w _ w (sim_enter args fn.ntmps hn) hw) rfl
 exact (callsIn_wide (n:=0)).1 this
end Go.Chx
namespace Go.Chx
open Go
variable {C:Ctx} {δ:List Deferred} {ρ:Da} {l:List A9} {I:World→Prop} {K:Act→World→Prop} {Q:Exit→Act→World→Prop} {ops:Array Oper}
variable {t:TypeId} {p:String} {af:Array Edge}
theorem wpIn_of {o:Oper} {a:Act} {w:World} (hnd:∀ c,o.op≠.defer c) (h:o.uponIn (wf C.ro) 0 C.P a K Q ((execOp a.eval o).run C.P w)):o.wpIn (wf C.ro) 0 C.P a w K Q :=
 ⟨fun _ _=>trivial,by rw [Oper.semAt_eq _ _ _ hnd]; exact h⟩
theorem Dr {m:Int} (h : -9223372036854775808≤m∧m≤9223372036854775807):IntKind.wrap .i64 m=m:=by
 simp only [IntKind.wrap,IntKind.bits,IntKind.signed]
 simp only [Bool.true_and]
 split <;> rename_i h' <;> simp at h' <;> omega
theorem Gf {o:Oper} (hg:o.guard=none) (hnd:∀ c,o.op≠.defer c)
  (h:∀ a w,Sim C.N δ ρ a→WSat C.X C.M C.w0 l I w→o.uponIn (wf C.ro) 0 C.P a K Q ((execOp a.eval o).run C.P w)):KJ C (Ax C ops o K Q) δ ρ l I:=by
 intro a w ha hw
 simp only [Ax,Region.wanted,hg,if_true]
 exact wpIn_of hnd (h a w ha hw)
theorem Bm {o:Oper} {d:Nat} {v:Value} (hdst:o.dst=some d) (hg:o.guard=none) (hnd:∀ c,o.op≠.defer c) (hd:Nat.blt d C.N=true)
  (h:∀ a w,Sim C.N δ ρ a→WSat C.X C.M C.w0 l I w→(execOp a.eval o).run C.P w=.ok (.value v) w)
  (k:KJ C K δ ((d,v)::ρ) l I):KJ C (Ax C ops o K Q) δ ρ l I :=
 Gf hg hnd fun a w ha hw=>by
  rw [h a w ha hw,Oper.uponIn_value,hdst]
  exact k _ w (ha.put hd v) hw
theorem st_skipW {o:Oper} {l':List A9} {J:World→Prop} (hdst:o.dst=none) (hg:o.guard=none) (hnd:∀ c,o.op≠.defer c)
  (h:∀ a w,Sim C.N δ ρ a→WSat C.X C.M C.w0 l I w→∃ w',(execOp a.eval o).run C.P w=.ok .skip w'∧WSat C.X C.M C.w0 l' J w')
  (k:KJ C K δ ρ l' J):KJ C (Ax C ops o K Q) δ ρ l I :=
 Gf hg hnd fun a w ha hw=>by
  obtain ⟨w',h1,h2⟩:=h a w ha hw
  rw [h1,Oper.uponIn_skip,hdst]
  exact k _ w' (ha.none _) h2
theorem gt {o:Oper} {j:Nat} {b:Bool} {d:Nat} (hg:o.guard=some (j,b)) (hj:(ops[j]?).bind (·.dst)=some d) (hb:lk ρ d=some (.bool b))
  (k:KJ C (Ax C ops { o with guard:=none } K Q) δ ρ l I):KJ C (Ax C ops o K Q) δ ρ l I:=by
 intro a w ha hw
 have h:=k a w ha hw
 have hy:yielded ops a.tmps j=some b:=by
  simp only [yielded,hj,Option.bind_some,ha.get d _ hb]
 simp only [Ax,Region.wanted,hg,hy,beq_self_eq_true,if_true] at h ⊢
 exact h
theorem gf {o:Oper} {j:Nat} {b b':Bool} {d e:Nat} (hg:o.guard=some (j,b)) (hj:(ops[j]?).bind (·.dst)=some e) (hb:lk ρ e=some (.bool b')) (hne:(b' == b)=false)
  (hd:o.dst=some d) (hn:Nat.blt d C.N=true)
  (k:KJ C K δ ((d,undef)::ρ) l I):KJ C (Ax C ops o K Q) δ ρ l I:=by
 intro a w ha hw
 have hy:yielded ops a.tmps j=some b':=by
  simp only [yielded,hj,Option.bind_some,ha.get e _ hb]
 have hne':(some b' == some b)=false:=by simpa using hne
 simp only [Ax,Region.wanted,hg,hy,hne',if_false,Bool.false_eq_true]
 exact ⟨fun _ _=>trivial,by rw [hd]; exact k _ w (ha.put hn undef) hw⟩
theorem mv {d:Nat} {x:Operand} {v:Value} (hd:Nat.blt d C.N=true) (hx:Bw ρ x=some v) (k:KJ C K δ ((d,v)::ρ) l I) :
  KJ C (Ax C ops ⟨some d,.move x,t,p,af,none⟩ K Q) δ ρ l I :=
 Bm rfl rfl (by simp) hd (fun a w ha _=>by simp [execOp,ha.ev hx]) k
theorem Ak {d:Nat} {x:Operand} {v:Value} (hd:Nat.blt d C.N=true) (hx:Bw ρ x=some v) (k:KJ C K δ ((d,v)::ρ) l I) :
  KJ C (Ax C ops ⟨some d,.assign x,t,p,af,none⟩ K Q) δ ρ l I :=
 Bm rfl rfl (by simp) hd (fun a w ha _=>by simp [execOp,ha.ev hx]) k
section
variable {tt:TypeId}
theorem Id {d:Nat} {x y:Operand} {k:IntKind} {m n:Int} {u:TypeId} (hd:Nat.blt d C.N=true) (hx:Bw ρ x=some (.int k m)) (hy:Bw ρ y=some (.int k n)) (kk:KJ C K δ ((d,.int k (k.wrap (m+n)))::ρ) l I) :
  KJ C (Ax C ops ⟨some d,.binOp .add tt x y u,t,p,af,none⟩ K Q) δ ρ l I :=
 Bm rfl rfl (by simp) hd (fun a w ha _=>by simp [execOp,eqGuard,binOp,Op.intArith,Op.intCmp,Op.intBits,bits,ha.ev hx,ha.ev hy]) kk
theorem subw {d:Nat} {x y:Operand} {k:IntKind} {m n:Int} {u:TypeId} (hd:Nat.blt d C.N=true) (hx:Bw ρ x=some (.int k m)) (hy:Bw ρ y=some (.int k n)) (kk:KJ C K δ ((d,.int k (k.wrap (m-n)))::ρ) l I) :
  KJ C (Ax C ops ⟨some d,.binOp .sub tt x y u,t,p,af,none⟩ K Q) δ ρ l I :=
 Bm rfl rfl (by simp) hd (fun a w ha _=>by simp [execOp,eqGuard,binOp,Op.intArith,Op.intCmp,Op.intBits,bits,ha.ev hx,ha.ev hy]) kk
theorem mulw {d:Nat} {x y:Operand} {k:IntKind} {m n:Int} {u:TypeId} (hd:Nat.blt d C.N=true) (hx:Bw ρ x=some (.int k m)) (hy:Bw ρ y=some (.int k n)) (kk:KJ C K δ ((d,.int k (k.wrap (m*n)))::ρ) l I) :
  KJ C (Ax C ops ⟨some d,.binOp .mul tt x y u,t,p,af,none⟩ K Q) δ ρ l I :=
 Bm rfl rfl (by simp) hd (fun a w ha _=>by simp [execOp,eqGuard,binOp,Op.intArith,Op.intCmp,Op.intBits,bits,ha.ev hx,ha.ev hy]) kk
theorem band {d:Nat} {x y:Operand} {k:IntKind} {m n:Int} {u:TypeId} (hd:Nat.blt d C.N=true) (hx:Bw ρ x=some (.int k m)) (hy:Bw ρ y=some (.int k n)) (kk:KJ C K δ ((d,.int k (bits .and k m n))::ρ) l I) :
  KJ C (Ax C ops ⟨some d,.binOp .and tt x y u,t,p,af,none⟩ K Q) δ ρ l I :=
 Bm rfl rfl (by simp) hd (fun a w ha _=>by simp [execOp,eqGuard,binOp,Op.intArith,Op.intCmp,Op.intBits,bits,ha.ev hx,ha.ev hy]) kk
theorem bor {d:Nat} {x y:Operand} {k:IntKind} {m n:Int} {u:TypeId} (hd:Nat.blt d C.N=true) (hx:Bw ρ x=some (.int k m)) (hy:Bw ρ y=some (.int k n)) (kk:KJ C K δ ((d,.int k (bits .or k m n))::ρ) l I) :
  KJ C (Ax C ops ⟨some d,.binOp .or tt x y u,t,p,af,none⟩ K Q) δ ρ l I :=
 Bm rfl rfl (by simp) hd (fun a w ha _=>by simp [execOp,eqGuard,binOp,Op.intArith,Op.intCmp,Op.intBits,bits,ha.ev hx,ha.ev hy]) kk
theorem bxor {d:Nat} {x y:Operand} {k:IntKind} {m n:Int} {u:TypeId} (hd:Nat.blt d C.N=true) (hx:Bw ρ x=some (.int k m)) (hy:Bw ρ y=some (.int k n)) (kk:KJ C K δ ((d,.int k (bits .xor k m n))::ρ) l I) :
  KJ C (Ax C ops ⟨some d,.binOp .xor tt x y u,t,p,af,none⟩ K Q) δ ρ l I :=
 Bm rfl rfl (by simp) hd (fun a w ha _=>by simp [execOp,eqGuard,binOp,Op.intArith,Op.intCmp,Op.intBits,bits,ha.ev hx,ha.ev hy]) kk
theorem Eu {d:Nat} {x y:Operand} {k:IntKind} {m n:Int} {u:TypeId} (hd:Nat.blt d C.N=true) (hx:Bw ρ x=some (.int k m)) (hy:Bw ρ y=some (.int k n)) (kk:KJ C K δ ((d,.bool (m == n))::ρ) l I) :
  KJ C (Ax C ops ⟨some d,.binOp .eql tt x y u,t,p,af,none⟩ K Q) δ ρ l I :=
 Bm rfl rfl (by simp) hd (fun a w ha _=>by simp [execOp,eqGuard,binOp,Op.intArith,Op.intCmp,Op.intBits,bits,ha.ev hx,ha.ev hy]) kk
theorem G2 {d:Nat} {x y:Operand} {k:IntKind} {m n:Int} {u:TypeId} (hd:Nat.blt d C.N=true) (hx:Bw ρ x=some (.int k m)) (hy:Bw ρ y=some (.int k n)) (kk:KJ C K δ ((d,.bool (m != n))::ρ) l I) :
  KJ C (Ax C ops ⟨some d,.binOp .neq tt x y u,t,p,af,none⟩ K Q) δ ρ l I :=
 Bm rfl rfl (by simp) hd (fun a w ha _=>by simp [execOp,eqGuard,binOp,Op.intArith,Op.intCmp,Op.intBits,bits,ha.ev hx,ha.ev hy]) kk
theorem Dd {d:Nat} {x y:Operand} {k:IntKind} {m n:Int} {u:TypeId} (hd:Nat.blt d C.N=true) (hx:Bw ρ x=some (.int k m)) (hy:Bw ρ y=some (.int k n)) (kk:KJ C K δ ((d,.bool (decide (m < n)))::ρ) l I) :
  KJ C (Ax C ops ⟨some d,.binOp .lss tt x y u,t,p,af,none⟩ K Q) δ ρ l I :=
 Bm rfl rfl (by simp) hd (fun a w ha _=>by simp [execOp,eqGuard,binOp,Op.intArith,Op.intCmp,Op.intBits,bits,ha.ev hx,ha.ev hy]) kk
theorem lei {d:Nat} {x y:Operand} {k:IntKind} {m n:Int} {u:TypeId} (hd:Nat.blt d C.N=true) (hx:Bw ρ x=some (.int k m)) (hy:Bw ρ y=some (.int k n)) (kk:KJ C K δ ((d,.bool (decide (m≤n)))::ρ) l I) :
  KJ C (Ax C ops ⟨some d,.binOp .leq tt x y u,t,p,af,none⟩ K Q) δ ρ l I :=
 Bm rfl rfl (by simp) hd (fun a w ha _=>by simp [execOp,eqGuard,binOp,Op.intArith,Op.intCmp,Op.intBits,bits,ha.ev hx,ha.ev hy]) kk
theorem gti {d:Nat} {x y:Operand} {k:IntKind} {m n:Int} {u:TypeId} (hd:Nat.blt d C.N=true) (hx:Bw ρ x=some (.int k m)) (hy:Bw ρ y=some (.int k n)) (kk:KJ C K δ ((d,.bool (decide (m > n)))::ρ) l I) :
  KJ C (Ax C ops ⟨some d,.binOp .gtr tt x y u,t,p,af,none⟩ K Q) δ ρ l I :=
 Bm rfl rfl (by simp) hd (fun a w ha _=>by simp [execOp,eqGuard,binOp,Op.intArith,Op.intCmp,Op.intBits,bits,ha.ev hx,ha.ev hy]) kk
theorem gei {d:Nat} {x y:Operand} {k:IntKind} {m n:Int} {u:TypeId} (hd:Nat.blt d C.N=true) (hx:Bw ρ x=some (.int k m)) (hy:Bw ρ y=some (.int k n)) (kk:KJ C K δ ((d,.bool (decide (m≥n)))::ρ) l I) :
  KJ C (Ax C ops ⟨some d,.binOp .geq tt x y u,t,p,af,none⟩ K Q) δ ρ l I :=
 Bm rfl rfl (by simp) hd (fun a w ha _=>by simp [execOp,eqGuard,binOp,Op.intArith,Op.intCmp,Op.intBits,bits,ha.ev hx,ha.ev hy]) kk
theorem add {d:Nat} {x y:Operand} {m n:Int} {u:TypeId} (hd:Nat.blt d C.N=true) (hx:Bw ρ x=some (.int .i64 m)) (hy:Bw ρ y=some (.int .i64 n)) (hr : -9223372036854775808≤m+n∧m+n≤9223372036854775807) (kk:KJ C K δ ((d,.int .i64 (m+n))::ρ) l I) :
  KJ C (Ax C ops ⟨some d,.binOp .add tt x y u,t,p,af,none⟩ K Q) δ ρ l I :=
 Id hd hx hy (by rw [Dr hr]; exact kk)
theorem sub {d:Nat} {x y:Operand} {m n:Int} {u:TypeId} (hd:Nat.blt d C.N=true) (hx:Bw ρ x=some (.int .i64 m)) (hy:Bw ρ y=some (.int .i64 n)) (hr : -9223372036854775808≤m-n∧m-n≤9223372036854775807) (kk:KJ C K δ ((d,.int .i64 (m-n))::ρ) l I) :
  KJ C (Ax C ops ⟨some d,.binOp .sub tt x y u,t,p,af,none⟩ K Q) δ ρ l I :=
 subw hd hx hy (by rw [Dr hr]; exact kk)
theorem mul {d:Nat} {x y:Operand} {m n:Int} {u:TypeId} (hd:Nat.blt d C.N=true) (hx:Bw ρ x=some (.int .i64 m)) (hy:Bw ρ y=some (.int .i64 n)) (hr : -9223372036854775808≤m*n∧m*n≤9223372036854775807) (kk:KJ C K δ ((d,.int .i64 (m*n))::ρ) l I) :
  KJ C (Ax C ops ⟨some d,.binOp .mul tt x y u,t,p,af,none⟩ K Q) δ ρ l I :=
 mulw hd hx hy (by rw [Dr hr]; exact kk)
theorem not {d:Nat} {x:Operand} {b:Bool} (hd:Nat.blt d C.N=true) (hx:Bw ρ x=some (.bool b)) (kk:KJ C K δ ((d,.bool (!b))::ρ) l I) :
  KJ C (Ax C ops ⟨some d,.unOp .not tt x,t,p,af,none⟩ K Q) δ ρ l I :=
 Bm rfl rfl (by simp) hd (fun a w ha _=>by simp [execOp,Op.unary,ha.ev hx]) kk
theorem negw {d:Nat} {x:Operand} {k:IntKind} {n:Int} (hd:Nat.blt d C.N=true) (hx:Bw ρ x=some (.int k n)) (kk:KJ C K δ ((d,.int k (k.wrap (0-n)))::ρ) l I) :
  KJ C (Ax C ops ⟨some d,.unOp .neg tt x,t,p,af,none⟩ K Q) δ ρ l I :=
 Bm rfl rfl (by simp) hd (fun a w ha _=>by simp [execOp,Op.unary,Op.intArith,ha.ev hx]) kk
theorem Cl {d:Nat} {c x y:Operand} {v:Value} (hd:Nat.blt d C.N=true) (hc:Bw ρ c=some (.bool true)) (hx:Bw ρ x=some v) (kk:KJ C K δ ((d,v)::ρ) l I) :
  KJ C (Ax C ops ⟨some d,.pick c x y,t,p,af,none⟩ K Q) δ ρ l I :=
 Bm rfl rfl (by simp) hd (fun a w ha _=>by simp [execOp,asBool,ha.ev hc,ha.ev hx]) kk
theorem Df {d:Nat} {c x y:Operand} {v:Value} (hd:Nat.blt d C.N=true) (hc:Bw ρ c=some (.bool false)) (hx:Bw ρ y=some v) (kk:KJ C K δ ((d,v)::ρ) l I) :
  KJ C (Ax C ops ⟨some d,.pick c x y,t,p,af,none⟩ K Q) δ ρ l I :=
 Bm rfl rfl (by simp) hd (fun a w ha _=>by simp [execOp,asBool,ha.ev hc,ha.ev hx]) kk
theorem ext {d i:Nat} {x:Operand} {vs:Array Value} {v:Value} (hd:Nat.blt d C.N=true) (hx:Bw ρ x=some (.tuple vs)) (hv:vs[i]? = some v) (kk:KJ C K δ ((d,v)::ρ) l I) :
  KJ C (Ax C ops ⟨some d,.extract x i,t,p,af,none⟩ K Q) δ ρ l I :=
 Bm rfl rfl (by simp) hd (fun a w ha _=>by simp [execOp,Instr.extract,ha.ev hx,hv]) kk
theorem Ig {d:Nat} {x:Operand} {s e:TypeId} {k j:IntKind} {n:Int} {ds:TypeDesc} (hd:Nat.blt d C.N=true) (hs:C.P.underlying s=some ds) (he:C.P.underlying e=some (.int j)) (hx:Bw ρ x=some (.int k n)) (kk:KJ C K δ ((d,.int j (j.wrap n))::ρ) l I) :
  KJ C (Ax C ops ⟨some d,.convert s e x,t,p,af,none⟩ K Q) δ ρ l I :=
 Bm rfl rfl (by simp) hd (fun a w ha _=>by simp [execOp,convert,run_underlying hs,run_underlying he,ha.ev hx,Conv.intToInt]) kk
theorem shl {d:Nat} {x y:Operand} {k j:IntKind} {m n:Int} {u:TypeId} (hd:Nat.blt d C.N=true) (hx:Bw ρ x=some (.int k m)) (hy:Bw ρ y=some (.int j n)) (h0:0≤n∧n≤k.bits) (kk:KJ C K δ ((d,.int k (k.wrap (m*2 ^ n.toNat)))::ρ) l I) :
  KJ C (Ax C ops ⟨some d,.binOp .shl tt x y u,t,p,af,none⟩ K Q) δ ρ l I :=
 Bm rfl rfl (by simp) hd (fun a w ha _=>by simp [execOp,eqGuard,binOp,ha.ev hx,ha.ev hy,shift_shl k j m n h0.1 h0.2]) kk
theorem shr {d:Nat} {x y:Operand} {k j:IntKind} {m n:Int} {u:TypeId} (hd:Nat.blt d C.N=true) (hx:Bw ρ x=some (.int k m)) (hy:Bw ρ y=some (.int j n)) (h0:0≤n∧n≤k.bits) (kk:KJ C K δ ((d,.int k (m / 2 ^ n.toNat))::ρ) l I) :
  KJ C (Ax C ops ⟨some d,.binOp .shr tt x y u,t,p,af,none⟩ K Q) δ ρ l I :=
 Bm rfl rfl (by simp) hd (fun a w ha _=>by simp [execOp,eqGuard,binOp,ha.ev hx,ha.ev hy,shift_shr k j m n h0.1 h0.2]) kk
theorem quo {d:Nat} {x y:Operand} {k:IntKind} {m n:Int} {u:TypeId} (hd:Nat.blt d C.N=true) (hx:Bw ρ x=some (.int k m)) (hy:Bw ρ y=some (.int k n)) (h0:n≠0) (kk:KJ C K δ ((d,.int k (k.wrap (m.tdiv n)))::ρ) l I) :
  KJ C (Ax C ops ⟨some d,.binOp .quo tt x y u,t,p,af,none⟩ K Q) δ ρ l I :=
 Bm rfl rfl (by simp) hd (fun a w ha _=>by simp [execOp,eqGuard,binOp,Op.intDiv,h0,ha.ev hx,ha.ev hy]) kk
theorem rem {d:Nat} {x y:Operand} {k:IntKind} {m n:Int} {u:TypeId} (hd:Nat.blt d C.N=true) (hx:Bw ρ x=some (.int k m)) (hy:Bw ρ y=some (.int k n)) (h0:n≠0) (kk:KJ C K δ ((d,.int k (m.tmod n))::ρ) l I) :
  KJ C (Ax C ops ⟨some d,.binOp .rem tt x y u,t,p,af,none⟩ K Q) δ ρ l I :=
 Bm rfl rfl (by simp) hd (fun a w ha _=>by simp [execOp,eqGuard,binOp,Op.intDiv,h0,ha.ev hx,ha.ev hy]) kk
theorem eqs {d:Nat} {x y:Operand} {m n:ByteArray} {u:TypeId} (hd:Nat.blt d C.N=true) (hx:Bw ρ x=some (.string m)) (hy:Bw ρ y=some (.string n)) (kk:KJ C K δ ((d,.bool (m.toList == n.toList))::ρ) l I) :
  KJ C (Ax C ops ⟨some d,.binOp .eql tt x y u,t,p,af,none⟩ K Q) δ ρ l I :=
 Bm rfl rfl (by simp) hd (fun a w ha _=>by simp [execOp,eqGuard,binOp,Op.stringOp,ha.ev hx,ha.ev hy]) kk
theorem mkf {d:Nat} {f:Fn} {xs ys:Array Operand} {vs us:Array Value} (hd:Nat.blt d C.N=true) (hx:xs.toList.map (Bw ρ)=vs.toList.map some) (hy:ys.toList.map (Bw ρ)=us.toList.map some) (kk:KJ C K δ ((d,.func f vs us)::ρ) l I) :
  KJ C (Ax C ops ⟨some d,.makeFunc f xs ys,t,p,af,none⟩ K Q) δ ρ l I:=by
 have key:∀ {a:Act} (_:Sim C.N δ ρ a) (xs:List Operand) (vs:List Value),xs.map (Bw ρ)=vs.map some→xs.map a.eval=vs:=by
  intro a ha xs
  induction xs with
  | nil=>intro vs h; cases vs with
   | nil=>rfl
   | cons _ _=>simp at h
  | cons x xs ih=>intro vs h; cases vs with
   | nil=>simp at h
   | cons v vs=>simp only [List.map_cons,List.cons.injEq] at h ⊢; exact ⟨ha.ev h.1,ih vs h.2⟩
 refine Bm rfl rfl (by simp) hd (fun a w ha _=>?_) kk
 have h1:xs.map a.eval=vs:=Array.toList_inj.1 (by simpa using key ha _ _ hx)
 have h2:ys.map a.eval=us:=Array.toList_inj.1 (by simpa using key ha _ _ hy)
 simp [execOp,Instr.makeFunc,h1,h2]
theorem Cq {d:Nat} {x:Operand} {a:Addr} (hd:Nat.blt d C.N=true) (hx:Bw ρ x=some (.pointer (some a))) (kk:KJ C K δ ((d,.pointer (some a))::ρ) l I) :
  KJ C (Ax C ops ⟨some d,.nilCheck x,t,p,af,none⟩ K Q) δ ρ l I :=
 Bm rfl rfl (by simp) hd (fun a w ha _=>by simp [execOp,ha.ev hx]) kk
theorem Bn {d:Nat} {x:Operand} {a:Option Addr} {n c:Nat} {e ty:TypeId} {tys:Array TypeId} (hd:Nat.blt d C.N=true) (hx:Bw ρ x=some (.slice a n c)) (ht:C.P.underlying ty=some (.slice e)) (htys:tys[0]? = some ty) (kk:KJ C K δ ((d,.int .i64 n)::ρ) l I) :
  KJ C (Ax C ops ⟨some d,.call ⟨.builtin .len,#[x],tys⟩,t,p,af,none⟩ K Q) δ ρ l I :=
 Bm rfl rfl (by simp) hd (fun a w ha _=>by simp [execOp,resolve,invoke,builtin,Builtin.len_,htys,run_underlying ht,ha.ev hx,goInt]) kk
theorem lenstr {d:Nat} {x:Operand} {s:ByteArray} {ty:TypeId} {tys:Array TypeId} (hd:Nat.blt d C.N=true) (hx:Bw ρ x=some (.string s)) (ht:C.P.underlying ty=some .string) (htys:tys[0]? = some ty) (kk:KJ C K δ ((d,.int .i64 s.size)::ρ) l I) :
  KJ C (Ax C ops ⟨some d,.call ⟨.builtin .len,#[x],tys⟩,t,p,af,none⟩ K Q) δ ρ l I :=
 Bm rfl rfl (by simp) hd (fun a w ha _=>by simp [execOp,resolve,invoke,builtin,Builtin.len_,htys,run_underlying ht,ha.ev hx,goInt]) kk
end
theorem A8 {c:Operand} {x y:Code} {q:Prop} [Decidable q] (hc:Bw ρ c=some (.bool (decide q))) (ht:q→KJ C (cw C x Q) δ ρ l I) (hf : ¬ q→KJ C (cw C y Q) δ ρ l I) :
  KJ C (cw C (.cond c x y) Q) δ ρ l I:=Ap hc (fun h=>ht (of_decide_eq_true h)) (fun h=>hf (of_decide_eq_false h))
theorem Fq {c:Operand} {x y:Code} {m n:Int} (hc:Bw ρ c=some (.bool (m == n))) (ht:m=n→KJ C (cw C x Q) δ ρ l I) (hf:m≠n→KJ C (cw C y Q) δ ρ l I) :
  KJ C (cw C (.cond c x y) Q) δ ρ l I:=Ap hc (fun h=>ht (by simpa using h)) (fun h=>hf (by simpa using h))
theorem C5 {c:Operand} {x y:Code} {m n:Int} (hc:Bw ρ c=some (.bool (m != n))) (ht:m≠n→KJ C (cw C x Q) δ ρ l I) (hf:m=n→KJ C (cw C y Q) δ ρ l I) :
  KJ C (cw C (.cond c x y) Q) δ ρ l I:=Ap hc (fun h=>ht (by simpa using h)) (fun h=>hf (by simpa using h))
end Go.Chx
