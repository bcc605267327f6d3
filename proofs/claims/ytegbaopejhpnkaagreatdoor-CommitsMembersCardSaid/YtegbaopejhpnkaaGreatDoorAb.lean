/- Part of the proof that the law CommitsMembers holds. -/
import Derived.KernelRfl
import Derived.Test.YtegbaopejhpnkaaGreatDoorAa
namespace Go.Chx
open Go
variable {C:Ctx} {δ:List Deferred} {ρ:Da} {l:List A9} {I:World→Prop} {K:Act→World→Prop} {Q:Exit→Act→World→Prop} {ops:Array Oper}
variable {t:TypeId} {p:String} {af:Array Edge}
structure Ty (P:Program) (t:TypeId) (agg:Bool) (n b:Nat):Prop where
 isAgg:∀ w,(Go.isAgg t).run P w=.ok agg w
 size:∀ w,(Go.sizeOf t).run P w=.ok n w
 info:∀ w,∃ i:TypeInfo,(Go.typeInfo t).run P w=.ok i w∧i.bytes=b∧i.size=n
def aggB:TypeDesc→Bool
 | .struct _=>true
 | .array _ _=>true
 | _=>false
def tyB (P:Program) (t:TypeId):Option (Bool × Nat × Nat) :=
 match P.info? t,P.underlying t with
 | some i,some d=>some (aggB d,i.size,i.bytes)
 | _,_=>none
theorem Cy {P:Program} {t:TypeId} {agg:Bool} {n b:Nat} (h:tyB P t=some (agg,n,b)):Ty P t agg n b:=by
 unfold tyB at h
 split at h
 ·rename_i i d hi hd
  simp only [Option.some.injEq,Prod.mk.injEq] at h
  obtain ⟨h1,h2,h3⟩:=h
  refine ⟨fun w=>?_,fun w=>?_,fun w=>⟨i,by simp [typeInfo,hi],h3,h2⟩⟩
  ·simp only [Go.isAgg,Sem.run_bind,run_underlying hd,Result.andThen_ok]
   subst h1
   cases d <;> rfl
  ·simp [Go.sizeOf,typeInfo,hi,h2]
 ·cases h
def zeroB (P:Program) (t:TypeId):Option Value:=(P.info? t).bind (·.zero)
theorem G6 {P:Program} {t:TypeId} {z:Value} (h:zeroB P t=some z) (w:World):(zeroValue t).run P w=.ok z w:=by
 unfold zeroB at h
 cases hi:P.info? t with
 | none=>rw [hi] at h; cases h
 | some i =>
  rw [hi] at h
  simp only [Option.bind_some] at h
  simp [zeroValue,typeInfo,hi,h]
structure Seg where
 n:Nat
 cs:List Value
 h:cs.length=n
 one:cs.all (·.oneCell')=true
abbrev S1 (v:Value) (h:v.oneCell'=true:=by rfl):Seg:=⟨1,[v],rfl,by simp [h]⟩
def flat:List Seg→List Value
 | []=>[]
 | s::r=>s.cs++flat r
theorem flat_one (segs:List Seg):∀ v∈flat segs,v.oneCell'=true:=by
 induction segs with
 | nil=>intro v h; simp [flat] at h
 | cons s r ih =>
  intro v h
  simp only [flat,List.mem_append] at h
  rcases h with h | h
  ·exact List.all_eq_true.1 s.one v h
  ·exact ih v h
def Ke:List Seg→Nat
 | []=>0
 | s::r=>s.n+Ke r
theorem He (segs:List Seg):(flat segs).length=Ke segs:=by
 induction segs with
 | nil=>rfl
 | cons s r ih=>simp [flat,Ke,s.h,ih]
def segAt:List Seg→Nat→Option Seg
 | [],_=>none
 | s::r,off=>cond (Nat.beq off 0) (some s) (cond (Nat.ble s.n off) (segAt r (off-s.n)) none)
theorem segAt_get {segs:List Seg}:∀ {off:Nat} {s:Seg},segAt segs off=some s→∀ j v,s.cs[j]? = some v→(flat segs)[off+j]? = some v:=by
 induction segs with
 | nil=>intro off s h; simp [segAt] at h
 | cons q r ih =>
  intro off s h j v hv
  simp only [segAt] at h
  cases h0:Nat.beq off 0 with
  | true =>
   rw [h0] at h
   have:=Nat.eq_of_beq_eq_true h0
   subst this
   simp only [cond_true,Option.some.injEq] at h
   subst h
   have hj:j < q.cs.length:=(List.getElem?_eq_some_iff.1 hv).1
   simp only [flat,Nat.zero_add]
   rw [List.getElem?_append_left hj]; exact hv
  | false =>
   rw [h0] at h
   simp only [cond_false] at h
   cases h1:Nat.ble q.n off with
   | false=>rw [h1] at h; simp at h
   | true =>
    rw [h1] at h
    simp only [cond_true] at h
    have hle:q.n≤off:=Nat.le_of_ble_eq_true h1
    have:=ih h j v hv
    simp only [flat]
    rw [List.getElem?_append_right (by rw [q.h]; omega),q.h]
    have e:off+j-q.n=off-q.n+j:=by omega
    rw [e]; exact this
def Hg:List Seg→Nat→Option Value
 | [],_=>none
 | s::r,off=>cond (Nat.ble s.n off) (Hg r (off-s.n)) (s.cs[off]?)
theorem cellAt_get {segs:List Seg}:∀ {off:Nat} {v:Value},Hg segs off=some v→(flat segs)[off]? = some v:=by
 induction segs with
 | nil=>intro off s h; simp [Hg] at h
 | cons q r ih =>
  intro off v h
  simp only [Hg] at h
  cases h1:Nat.ble q.n off with
  | false =>
   rw [h1] at h
   simp only [cond_false] at h
   simp only [flat]
   rw [List.getElem?_append_left (List.getElem?_eq_some_iff.1 h).1]; exact h
  | true =>
   rw [h1] at h
   simp only [cond_true] at h
   have hle:q.n≤off:=Nat.le_of_ble_eq_true h1
   simp only [flat]
   rw [List.getElem?_append_right (by rw [q.h]; omega),q.h]
   exact ih h
inductive SUpd:List Seg→Nat→Seg→List Seg→Prop
 | head {s s':Seg} {r:List Seg}:s'.n=s.n→SUpd (s::r) 0 s' (s'::r)
 | tail {s s':Seg} {r r':List Seg} {i:Nat}:SUpd r i s' r'→SUpd (s::r) (i+1) s' (s::r')
def Hi:List Seg→Nat→Nat
 | [],_=>0
 | s::r,i=>match i with
  | 0=>0
  | i+1=>s.n+Hi r i
theorem SUpd.flat {segs segs':List Seg} {i:Nat} {s:Seg} (h:SUpd segs i s segs') :
  Hi segs i+s.n≤(flat segs).length∧Chx.flat segs'=(Chx.flat segs).take (Hi segs i)++s.cs++(Chx.flat segs).drop (Hi segs i+s.n):=by
 induction h with
 | @head s s' r hn =>
  constructor
  ·simp [Chx.flat,s.h,hn,Hi]
  ·simp only [Chx.flat,Hi,List.take_zero,List.nil_append,Nat.zero_add]
   rw [List.drop_append_of_le_length (by rw [hn,s.h]; exact Nat.le_refl _)]
   rw [List.drop_of_length_le (by rw [hn,s.h]; exact Nat.le_refl _)]
   simp
 | @tail s s' r r' i h ih =>
  obtain ⟨h1,h2⟩:=ih
  simp only [Hi]
  constructor
  ·simp only [Chx.flat,List.length_append,s.h]; omega
  ·simp only [Chx.flat]
   rw [h2]
   rw [List.take_append,List.drop_append]
   have e1:s.n+Hi r i-s.cs.length=Hi r i:=by rw [s.h]; omega
   have e2:s.n+Hi r i+s'.n-s.cs.length=Hi r i+s'.n:=by rw [s.h]; omega
   rw [List.take_of_length_le (l:=s.cs) (by rw [s.h]; omega),List.drop_of_length_le (l:=s.cs) (by rw [s.h]; omega),e1,e2]
   simp
abbrev bx (r:Nat) (segs:List Seg) (t:TypeId):A9:=some (r,.cells (flat segs).toArray t (0,0))
abbrev av (segs:List Seg):Value:=.agg (flat segs).toArray
abbrev Bg (r off:Nat):Value:=.pointer (some ⟨r,off,none⟩)
theorem E0 {w:World} {r:Nat} {cs:List Value} {t:TypeId} {fz:Nat × Nat} (h:w.heap[r]? = some (.cells cs.toArray t fz)) {off:Nat} {v:Value} (hv:cs[off]? = some v):w.cell? ⟨r,off,none⟩=some v:=by
 simp [World.cell?,h,hv]
theorem Fk (r off j:Nat):(⟨r,off,none⟩:Addr).add j=⟨r,off+j,none⟩:=by
 unfold Addr.add; split <;> simp_all
theorem Iu {P:Program} {t:TypeId} {n b:Nat} (ht:Ty P t false n b) {a:Addr} {v:Value} {w:World} (hv:w.cell? a=some v):(loadVar t a).run P w=.ok v w:=by
 simp [loadVar,ht.isAgg,hv]
theorem G8 {P:Program} {t:TypeId} {n b:Nat} (ht:Ty P t true n b) {a:Addr} {cs:List Value} (hn:cs.length=n) {w:World} (hv:∀ j v,cs[j]? = some v→w.cell? (a.add j)=some v) :
  (loadVar t a).run P w=.ok (.agg cs.toArray) w:=by
 subst hn
 simp [loadVar,ht.isAgg,ht.size,run_loadCells_list w a cs hv]
theorem Fo {w:World} (h:WSat C.X C.M C.w0 l I w) {r:Nat} {o:Obj} (hm:some (r,o)∈l):w.heap[r]? = some o:=h.own r o hm
theorem Js {d r off n b:Nat} {x:Operand} {tt te:TypeId} {segs:List Seg} {s:Seg} (hd:Nat.blt d C.N=true) (hx:Bw ρ x=some (Bg r off)) (ht:Ty C.P tt true n b)
  (hm:bx r segs te∈l) (hs:segAt segs off=some s) (hn:s.n=n) (k:KJ C K δ ((d,.agg s.cs.toArray)::ρ) l I) :
  KJ C (Ax C ops ⟨some d,.load tt x,t,p,af,none⟩ K Q) δ ρ l I :=
 Bm rfl rfl (by simp) hd (fun a w ha hw=>by
  have:=G8 ht (a:=⟨r,off,none⟩) (w:=w) (cs:=s.cs) (s.h.trans hn) (fun j v hv=>by
   rw [Fk]; exact E0 (Fo hw hm) (segAt_get hs j v hv))
  simp [execOp,Instr.loadAt,Instr.sureAddr,ha.ev hx,this]) k
theorem Eb {d r n b:Nat} {x:Operand} {tt te:TypeId} {segs:List Seg} (hd:Nat.blt d C.N=true) (hx:Bw ρ x=some (Bg r 0)) (ht:Ty C.P tt true n b)
  (hm:bx r segs te∈l) (hn:Ke segs=n) (k:KJ C K δ ((d,av segs)::ρ) l I) :
  KJ C (Ax C ops ⟨some d,.load tt x,t,p,af,none⟩ K Q) δ ρ l I :=
 Bm rfl rfl (by simp) hd (fun a w ha hw=>by
  have:=G8 ht (a:=⟨r,0,none⟩) (w:=w) (cs:=flat segs) ((He segs).trans hn) (fun j v hv=>by
   rw [Fk,Nat.zero_add]; exact E0 (Fo hw hm) hv)
  simp [execOp,Instr.loadAt,Instr.sureAddr,ha.ev hx,this]) k
theorem Bh {d r off n b:Nat} {x:Operand} {tt te:TypeId} {segs:List Seg} {v:Value} (hd:Nat.blt d C.N=true) (hx:Bw ρ x=some (Bg r off)) (ht:Ty C.P tt false n b)
  (hm:bx r segs te∈l) (hs:Hg segs off=some v) (k:KJ C K δ ((d,v)::ρ) l I) :
  KJ C (Ax C ops ⟨some d,.load tt x,t,p,af,none⟩ K Q) δ ρ l I :=
 Bm rfl rfl (by simp) hd (fun a w ha hw=>by
  have:=Iu ht (a:=⟨r,off,none⟩) (w:=w) (E0 (Fo hw hm) (cellAt_get hs))
  simp [execOp,Instr.loadAt,Instr.sureAddr,ha.ev hx,this]) k
theorem ldI1 {d n b:Nat} {x:Operand} {tt:TypeId} {a:Addr} {v:Value} (hd:Nat.blt d C.N=true) (hx:Bw ρ x=some (.pointer (some a))) (ht:Ty C.P tt false n b)
  (hi:∀ w,I w→w.cell? a=some v) (k:KJ C K δ ((d,v)::ρ) l I) :
  KJ C (Ax C ops ⟨some d,.load tt x,t,p,af,none⟩ K Q) δ ρ l I :=
 Bm rfl rfl (by simp) hd (fun a' w ha hw=>by
  have:=Iu ht (w:=w) (hi w hw.fr.holds)
  simp [execOp,Instr.loadAt,Instr.sureAddr,ha.ev hx,this]) k
theorem ldIA {d n b:Nat} {x:Operand} {tt:TypeId} {a:Addr} {cs:List Value} (hd:Nat.blt d C.N=true) (hx:Bw ρ x=some (.pointer (some a))) (ht:Ty C.P tt true n b) (hn:cs.length=n)
  (hi:∀ w,I w→∀ j v,cs[j]? = some v→w.cell? (a.add j)=some v) (k:KJ C K δ ((d,.agg cs.toArray)::ρ) l I) :
  KJ C (Ax C ops ⟨some d,.load tt x,t,p,af,none⟩ K Q) δ ρ l I :=
 Bm rfl rfl (by simp) hd (fun a' w ha hw=>by
  have:=G8 ht hn (w:=w) (hi w hw.fr.holds)
  simp [execOp,Instr.loadAt,Instr.sureAddr,ha.ev hx,this]) k
theorem push_alloc {w:World} {o:Obj} (h:WSat C.X C.M C.w0 l I w):WSat C.X C.M C.w0 (some (w.heap.size,o)::l) I { w with heap:=w.heap.push o } :=
 h.push rfl rfl rfl rfl
theorem Jw {o:Oper} {d:Nat} {ob:Obj} (hdst:o.dst=some d) (hg:o.guard=none) (hnd:∀ c,o.op≠.defer c) (hd:Nat.blt d C.N=true) {v:Nat→Value}
  (h:∀ a w,Sim C.N δ ρ a→WSat C.X C.M C.w0 l I w→(execOp a.eval o).run C.P w=.ok (.value (v w.heap.size)) { w with heap:=w.heap.push ob })
  (k:∀ r,KJ C K δ ((d,v r)::ρ) (some (r,ob)::l) I):KJ C (Ax C ops o K Q) δ ρ l I :=
 Gf hg hnd fun a w ha hw=>by
  rw [h a w ha hw,Oper.uponIn_value,hdst]
  exact k _ _ _ (ha.put hd _) (push_alloc hw)
def Jq (P:Program) (t:TypeId) (segs:List Seg):Prop:=∃ z,zeroB P t=some z∧z.cells=(flat segs).toArray
theorem C7 {d:Nat} {tt:TypeId} {segs:List Seg} (hd:Nat.blt d C.N=true) (hz:Jq C.P tt segs)
  (k:∀ r,KJ C K δ ((d,Bg r 0)::ρ) (bx r segs tt::l) I):KJ C (Ax C ops ⟨some d,.alloc tt,t,p,af,none⟩ K Q) δ ρ l I :=
 Jw (v:=fun r=>Bg r 0) (ob:=.cells (flat segs).toArray tt (0,0)) rfl rfl (by simp) hd (fun a w ha hw=>by
  obtain ⟨z,hz,hc⟩:=hz
  simp [execOp,Instr.alloc,G6 hz,newVar,newRow,hc]) k
theorem C6 {d:Nat} {tt:TypeId} {x:Operand} {segs:List Seg} (hd:Nat.blt d C.N=true) (hx:Bw ρ x=some (av segs))
  (k:∀ r,KJ C K δ ((d,Bg r 0)::ρ) (bx r segs tt::l) I):KJ C (Ax C ops ⟨some d,.box tt x,t,p,af,none⟩ K Q) δ ρ l I :=
 Jw (v:=fun r=>Bg r 0) (ob:=.cells (flat segs).toArray tt (0,0)) rfl rfl (by simp) hd (fun a w ha hw=>by
  simp [execOp,Instr.box,newVar,newRow,ha.ev hx,Value.cells]) k
theorem I8 {v:Value} (h:v.oneCell'=true):v.cells = #[v]:=by cases v <;> first | rfl | simp [Value.oneCell'] at h
theorem box1 {d:Nat} {tt:TypeId} {x:Operand} {v:Value} (hd:Nat.blt d C.N=true) (hx:Bw ρ x=some v) (h1:v.oneCell'=true)
  (k:∀ r,KJ C K δ ((d,Bg r 0)::ρ) (bx r [S1 v h1] tt::l) I):KJ C (Ax C ops ⟨some d,.box tt x,t,p,af,none⟩ K Q) δ ρ l I :=
 Jw (v:=fun r=>Bg r 0) (ob:=.cells #[v] tt (0,0)) rfl rfl (by simp) hd (fun a w ha hw=>by
  simp [execOp,Instr.box,newVar,newRow,ha.ev hx,I8 h1]) k
theorem G7 {P:Program} {tt te:TypeId} {n b r off:Nat} {agg:Bool} (ht:Ty P tt agg n b) {cur cs:List Value} {v:Value} (hv:v.cells=cs.toArray) (hn:cs.length=n) (h1:∀ u∈cs,u.oneCell'=true)
  {w:World} (hr:w.heap[r]? = some (.cells cur.toArray te (0,0))) (hle:off+n≤cur.length) :
  (storeVar tt ⟨r,off,none⟩ v).run P w=.ok () (w.setRow r (cur.take off++cs++cur.drop (off+n)).toArray):=by
 have:=run_storeCells_at (P:=P) r off te cs 0 cur.toArray w hr (by simpa [hn] using hle) h1
 simp only [Nat.add_zero,hn] at this
 simp [storeVar,hv,ht.size,hn,this]
theorem setRow_os (w:World) (r:Nat) (c:Array Value):(w.setRow r c).os=w.os∧(w.setRow r c).tape=w.tape∧(w.setRow r c).output=w.output∧(w.setRow r c).heap.size=w.heap.size:=by
 refine ⟨rfl,rfl,rfl,?_⟩
 simp [World.setRow]
theorem setRow_other (w:World) (r:Nat) (c:Array Value) {b:Nat} (h:b≠r):(w.setRow r c).heap[b]? = w.heap[b]?:=by
 simp only [World.setRow,Array.getElem?_modify]
 rw [if_neg (by omega)]
theorem Em {w:World} {r:Nat} {cur new:List Value} {te:TypeId} {l':List A9} (h:WSat C.X C.M C.w0 l I w) (hu:Upd l (some (r,.cells cur.toArray te (0,0))) (some (r,.cells new.toArray te (0,0))) l') :
  WSat C.X C.M C.w0 l' I (w.setRow r new.toArray) :=
 h.upd hu (setRow_os ..).2.2.2 (setRow_heap w r cur.toArray new.toArray te (0,0) (Fo h hu.mem)) (fun b hb=>setRow_other w r _ hb) rfl rfl rfl
theorem stS {r off n b i:Nat} {x y:Operand} {tt te:TypeId} {agg:Bool} {v:Value} {segs segs':List Seg} {s:Seg} {l':List A9} (hx:Bw ρ x=some (Bg r off)) (hy:Bw ρ y=some v) (ht:Ty C.P tt agg n b)
  (hv:v.cells=s.cs.toArray) (hn:s.n=n) (hs:SUpd segs i s segs') (ho:Hi segs i=off) (hu:Upd l (bx r segs te) (bx r segs' te) l') (k:KJ C K δ ρ l' I) :
  KJ C (Ax C ops ⟨none,.store tt x y,t,p,af,none⟩ K Q) δ ρ l I :=
 st_skipW rfl rfl (by simp) (fun a w ha hw=>by
  subst ho
  obtain ⟨h1,h2⟩:=hs.flat
  have:=G7 ht hv (s.h.trans hn) (List.all_eq_true.1 s.one) (Fo hw hu.mem) (off:=Hi segs i) (by rw [← hn]; exact h1)
  rw [← hn,← h2] at this
  exact ⟨w.setRow r (flat segs').toArray,by simp [execOp,Instr.storeAt,Instr.sureAddr,ha.ev hx,ha.ev hy,this],Em hw hu⟩) k
theorem stA {r off n b i:Nat} {x y:Operand} {tt te:TypeId} {segs segs':List Seg} {s:Seg} {l':List A9} (hx:Bw ρ x=some (Bg r off)) (hy:Bw ρ y=some (.agg s.cs.toArray)) (ht:Ty C.P tt true n b)
  (hn:s.n=n) (hs:SUpd segs i s segs') (ho:Hi segs i=off) (hu:Upd l (bx r segs te) (bx r segs' te) l') (k:KJ C K δ ρ l' I) :
  KJ C (Ax C ops ⟨none,.store tt x y,t,p,af,none⟩ K Q) δ ρ l I:=stS hx hy ht rfl hn hs ho hu k
theorem st1 {r off b i:Nat} {x y:Operand} {tt te:TypeId} {v:Value} {segs segs':List Seg} {l':List A9} (hx:Bw ρ x=some (Bg r off)) (hy:Bw ρ y=some v) (ht:Ty C.P tt false 1 b)
  (h1:v.oneCell'=true) (hs:SUpd segs i (S1 v h1) segs') (ho:Hi segs i=off) (hu:Upd l (bx r segs te) (bx r segs' te) l') (k:KJ C K δ ρ l' I) :
  KJ C (Ax C ops ⟨none,.store tt x y,t,p,af,none⟩ K Q) δ ρ l I:=stS hx hy ht (s:=S1 v h1) (by rw [I8 h1]) rfl hs ho hu k
theorem C0 {r n b:Nat} {x y:Operand} {tt te:TypeId} {segs segs':List Seg} {l':List A9} (hx:Bw ρ x=some (Bg r 0)) (hy:Bw ρ y=some (av segs')) (ht:Ty C.P tt true n b)
  (hn:Ke segs'=n) (hn':Ke segs=n) (hu:Upd l (bx r segs te) (bx r segs' te) l') (k:KJ C K δ ρ l' I) :
  KJ C (Ax C ops ⟨none,.store tt x y,t,p,af,none⟩ K Q) δ ρ l I :=
 st_skipW rfl rfl (by simp) (fun a w ha hw=>by
  have hl:=(He segs).trans hn'
  have:=G7 ht (v:=av segs') (cs:=flat segs') rfl ((He segs').trans hn) (flat_one segs') (Fo hw hu.mem) (off:=0) (by rw [hl]; omega)
  have e:(flat segs).take 0++flat segs'++(flat segs).drop (0+n)=flat segs':=by
   rw [List.drop_of_length_le (by rw [hl]; omega)]; simp
  rw [e] at this
  exact ⟨w.setRow r (flat segs').toArray,by simp [execOp,Instr.storeAt,Instr.sureAddr,ha.ev hx,ha.ev hy,this],Em hw hu⟩) k
def D3 (P:Program) (t:TypeId) (i:Nat):Option (Nat × TypeId) :=
 match P.underlying t with
 | some (.struct fs)=>(fs[i]?).map fun f=>(f.offset,f.type)
 | _=>none
theorem run_fieldAt {P:Program} {s:TypeId} {i o:Nat} {tf:TypeId} {agg:Bool} {n b:Nat} (hf:D3 P s i=some (o,tf)) (hz:Ty P tf agg (n+1) b) (a:Addr) (w:World) :
  (Instr.fieldAt s (.pointer (some a)) i).run P w=.ok (.pointer (some (a.add o))) w:=by
 unfold D3 at hf
 split at hf
 ·rename_i fs hu
  obtain ⟨f,hfi,he⟩:=Option.map_eq_some_iff.1 hf
  simp only [Prod.mk.injEq] at he
  obtain ⟨rfl,rfl⟩:=he
  simp [Instr.fieldAt,run_underlying hu,hfi,Instr.sureAddr,fieldPlace,hz.size]
 ·cases hf
theorem A2 {d r off o i:Nat} {tf:TypeId} {x:Operand} {s:TypeId} {agg:Bool} {n b:Nat} (hd:Nat.blt d C.N=true) (hx:Bw ρ x=some (Bg r off)) (hf:D3 C.P s i=some (o,tf)) (hz:Ty C.P tf agg (n+1) b) {o':Nat} (ho:off+o=o')
  (k:KJ C K δ ((d,Bg r o')::ρ) l I):KJ C (Ax C ops ⟨some d,.fieldAddr s x i,t,p,af,none⟩ K Q) δ ρ l I :=
 Bm rfl rfl (by simp) hd (fun a w ha hw=>by
  subst ho
  simp [execOp,ha.ev hx,run_fieldAt hf hz,Fk]) k
theorem Gj {d r off n n' b len:Nat} {te:TypeId} {x y:Operand} {s:TypeId} {agg:Bool} {j:IntKind} {i:Int} (hd:Nat.blt d C.N=true) (hx:Bw ρ x=some (Bg r off)) (hy:Bw ρ y=some (.int j i)) (hu:C.P.underlying s=some (.array len te)) (ht:Ty C.P te agg n b) (hi:0≤i∧i < len) (ho:off+i.toNat*n=n')
  (k:KJ C K δ ((d,Bg r n')::ρ) l I):KJ C (Ax C ops ⟨some d,.indexAddr s x y,t,p,af,none⟩ K Q) δ ρ l I :=
 Bm rfl rfl (by simp) hd (fun a w ha hw=>by
  subst ho
  simp [execOp,ha.ev hx,ha.ev hy,Instr.indexAt,asIntOf,run_underlying hu,Instr.sureAddr,hi,ht.size,Fk]) k
theorem ixs {d n b len cap:Nat} {te:TypeId} {x y:Operand} {s:TypeId} {agg:Bool} {j:IntKind} {i:Int} {a:Addr} (hd:Nat.blt d C.N=true) (hx:Bw ρ x=some (.slice (some a) len cap)) (hy:Bw ρ y=some (.int j i)) (hu:C.P.underlying s=some (.slice te)) (ht:Ty C.P te agg n b) (hi:0≤i∧i < len)
  (k:KJ C K δ ((d,.pointer (some (a.add (i.toNat*n))))::ρ) l I):KJ C (Ax C ops ⟨some d,.indexAddr s x y,t,p,af,none⟩ K Q) δ ρ l I :=
 Bm rfl rfl (by simp) hd (fun a' w ha hw=>by
  simp [execOp,ha.ev hx,ha.ev hy,Instr.indexAt,asIntOf,run_underlying hu,hi,ht.size]) k
theorem run_part1 {P:Program} {tf:TypeId} {n b:Nat} (ht:Ty P tf false n b) {cs:List Value} {off:Nat} {v:Value} (hv:cs[off]? = some v) (w:World):(part tf cs.toArray off).run P w=.ok v w:=by
 simp [part,ht.isAgg,hv]
theorem run_partA {P:Program} {tf:TypeId} {n b:Nat} (ht:Ty P tf true n b) {cs:List Value} {off:Nat} {us:List Value} (hn:us.length=n) (hv:∀ j v,us[j]? = some v→cs[off+j]? = some v) (w:World):(part tf cs.toArray off).run P w=.ok (.agg us.toArray) w:=by
 have e:List.take n (List.drop off cs)=us:=by
  apply List.ext_getElem?
  intro j
  by_cases hj:j < n
  ·have hu:us[j]? = some us[j]:=List.getElem?_eq_getElem (by omega)
   rw [hu,List.getElem?_take_of_lt hj,List.getElem?_drop]
   exact hv j _ hu
  ·rw [List.getElem?_eq_none (l:=us) (by omega),List.getElem?_eq_none]
   rw [List.length_take]; omega
 simp [part,ht.isAgg,ht.size,e]
theorem fld1 {d o i n b:Nat} {tf:TypeId} {x:Operand} {s:TypeId} {segs:List Seg} {v:Value} (hd:Nat.blt d C.N=true) (hx:Bw ρ x=some (av segs)) (hf:D3 C.P s i=some (o,tf)) (ht:Ty C.P tf false n b) (hs:Hg segs o=some v)
  (k:KJ C K δ ((d,v)::ρ) l I):KJ C (Ax C ops ⟨some d,.field s x i,t,p,af,none⟩ K Q) δ ρ l I :=
 Bm rfl rfl (by simp) hd (fun a w ha hw=>by
  unfold D3 at hf
  split at hf
  ·rename_i fs hu
   obtain ⟨f,hfi,he⟩:=Option.map_eq_some_iff.1 hf
   simp only [Prod.mk.injEq] at he
   obtain ⟨rfl,rfl⟩:=he
   have:=run_part1 ht (cellAt_get hs) w
   simp [execOp,ha.ev hx,Instr.field,run_underlying hu,hfi,asAgg,this]
  ·cases hf) k
end Go.Chx
namespace Go.Chx
open Go
variable {C:Ctx} {δ:List Deferred} {ρ:Da} {l:List A9} {I:World→Prop} {K:Act→World→Prop} {Q:Exit→Act→World→Prop} {ops:Array Oper}
variable {t:TypeId} {p:String} {af:Array Edge}
theorem G1 (a b:List A9):keys (a++b)=keys a++keys b:=by
 induction a with
 | nil=>rfl
 | cons e a ih=>cases e with
  | none=>simpa [keys] using ih
  | some p=>simp [keys,ih]
theorem WSat.hand {X M:Nat→Prop} {w0:World} {lin lrest:List A9} {I J:World→Prop} {w:World} (h:WSat X M w0 (lin++lrest) I w) (hi:∀ w,I w→J w) :
  WSat (fun b=>X b∨b∈keys lrest) (·∈keys lin) w lin J w:=by
 have hk:=G1 lin lrest
 refine ⟨?_,Ext.refl _ _,?_,fun r o hm=>h.own r o (List.mem_append_left _ hm),?_,fun r hr=>.inl hr,?_⟩
 ·rintro b (hb | hb)
  ·exact Nat.lt_of_lt_of_le (h.lowX b hb) h.ext.size
  ·exact h.lt (by rw [hk]; exact List.mem_append_right _ hb)
 ·have:=h.nodup; rw [hk] at this; exact (List.nodup_append.1 this).1
 ·intro r hr hx
  rcases hx with hx | hx
  ·exact h.ownX r (by rw [hk]; exact List.mem_append_left _ hr) hx
  ·have:=h.nodup; rw [hk] at this
   exact (List.nodup_append.1 this).2.2 r hr r hx rfl
 ·refine Ck.weaken (h.fr.mono hi) ?_
  intro b _ hx
  rw [hk]
  rcases hx with (hx | hx) | hx
  ·exact .inl hx
  ·exact .inr (List.mem_append_right _ hx)
  ·exact .inr (List.mem_append_left _ hx)
theorem WSat.back {X M:Nat→Prop} {w0:World} {lin lrest lout:List A9} {I J:World→Prop} {w w':World} (h:WSat X M w0 (lin++lrest) I w)
  (h':WSat (fun b=>X b∨b∈keys lrest) (·∈keys lin) w lout J w'):WSat X M w0 (lout++lrest) (fun w=>J w∧I w) w':=by
 have hk:=G1 lin lrest
 have hk':=G1 lout lrest
 have hrest:∀ b,b∈keys lrest→b < w.heap.size∧b∉keys lin:=fun b hb =>
  ⟨h.lt (by rw [hk]; exact List.mem_append_right _ hb),fun hl=>by
   have:=h.nodup; rw [hk] at this
   exact (List.nodup_append.1 this).2.2 b hl b hb rfl⟩
 refine ⟨h.lowX,?_,?_,?_,?_,?_,?_⟩
 ·refine ⟨h'.ext.os.trans h.ext.os,h'.ext.tape.trans h.ext.tape,h'.ext.output.trans h.ext.output,Nat.le_trans h.ext.size h'.ext.size,fun b hb hm=>?_⟩
  rw [h'.ext.block b (Nat.lt_of_lt_of_le hb h.ext.size) ?_]
  ·exact h.ext.block b hb hm
  ·intro hl
   rcases h.ownM b (by rw [hk]; exact List.mem_append_left _ hl) with h1 | h1
   ·exact hm h1
   ·omega
 ·rw [hk']
  refine List.nodup_append.2 ⟨h'.nodup,?_,?_⟩
  ·have:=h.nodup; rw [hk] at this; exact (List.nodup_append.1 this).2.1
  ·intro a ha b hb e
   subst e
   exact h'.ownX a ha (.inr hb)
 ·intro r o hm
  rcases List.mem_append.1 hm with hm | hm
  ·exact h'.own r o hm
  ·have hr:=Jh.2 ⟨o,hm⟩
   rw [h'.ext.block r (hrest r hr).1 (hrest r hr).2]
   exact h.own r o (List.mem_append_right _ hm)
 ·intro r hr hx
  rw [hk',List.mem_append] at hr
  rcases hr with hr | hr
  ·exact h'.ownX r hr (.inl hx)
  ·exact h.ownX r (by rw [hk]; exact List.mem_append_right _ hr) hx
 ·intro r hr
  rw [hk',List.mem_append] at hr
  rcases hr with hr | hr
  ·rcases h'.ownM r hr with h1 | h1
   ·exact h.ownM r (by rw [hk]; exact List.mem_append_left _ h1)
   ·exact .inr (Nat.le_trans h.ext.size h1)
  ·exact h.ownM r (by rw [hk]; exact List.mem_append_right _ hr)
 ·refine Ck.and ?_ ?_
  ·refine Ck.weaken h'.fr ?_
   intro b _ hx
   rw [hk',List.mem_append] at hx
   rcases hx with hx | hx | hx
   ·exact .inl (.inl hx)
   ·exact .inr hx
   ·exact .inl (.inr hx)
  ·refine Ck.step (Ck.weaken (X':=fun b=>X b∨b∈keys (lin++lrest)∨b∈keys (lout++lrest)) h.fr ?_) h'.ext.size ?_ |>.weaken ?_
   ·intro b hb hx
    rcases hx with hx | hx | hx
    ·exact .inl hx
    ·exact .inr hx
    ·rw [hk',List.mem_append] at hx
     rcases hx with hx | hx
     ·rcases h'.ownM b hx with h1 | h1
      ·exact .inr (by rw [hk]; exact List.mem_append_left _ h1)
      ·omega
     ·exact .inr (by rw [hk]; exact List.mem_append_right _ hx)
   ·intro b hb hx
    exact h'.ext.block b hb fun hl=>hx (.inr (.inl (by rw [hk]; exact List.mem_append_left _ hl)))
   ·intro b _ hx
    rcases hx with hx | hx
    ·exact .inl hx
    ·exact .inr (.inr hx)
inductive Args (ρ:Da):List Operand→List Value→Prop
 | nil:Args ρ [] []
 | cons {o:Operand} {v:Value} {os:List Operand} {vs:List Value}:Bw ρ o=some v→Args ρ os vs→Args ρ (o::os) (v::vs)
theorem Args.map {N δ ρ} {a:Act} (ha:Sim N δ ρ a) {os:List Operand} {vs:List Value} (h:Args ρ os vs):os.map a.eval=vs:=by
 induction h with
 | nil=>rfl
 | cons h _ ih=>simp only [List.map_cons,ha.ev h,ih]
def Aq (P:Program) (f:FuncId):Bool :=
 match P.funcs[f]? with
 | some fn=>fn.body.isSome && !(fn.name == "runtime.NumGoroutine")
 | none=>false
theorem Fa {P:Program} {f:FuncId} (h:Aq P f=true) (args:Array Value) (w:World):(callFunc f args).run P w=.ok (.enter f args) w:=by
 unfold Aq at h
 split at h
 ·rename_i fn hf
  simp only [Bool.and_eq_true,Bool.not_eq_true'] at h
  obtain ⟨h1,h2⟩:=h
  have h2':fn.name ≠ "runtime.NumGoroutine" := by simpa using h2
  have h3:fn.body≠none:=by cases hb:fn.body <;> simp_all
  simp [callFunc,hf,h2',h3]
 ·cases h
theorem Kr {ro:Option Nat} {P:Program} {f:FuncId} {args:Array Value} {w:World} {R:Ending→World→Prop} (h:Calls P f args w R):CallsIn (wf ro) 0 P f args w R:=by
 have:=(callsIn_wide (n:=0)).2 h
 exact this
theorem st_call {o:Oper} {d:Nat} {f:FuncId} {g:Operand} {fs vs cs:List Value} {os:List Operand} {tys:Array TypeId} {lin lrest:List A9} {I':World→Prop} {α:Type} {out:α→Out}
  (ho:o=⟨some d,.call ⟨.value g,os.toArray,tys⟩,t,p,af,none⟩) (hd:Nat.blt d C.N=true) (hg:Bw ρ g=some (.func (.func f) fs.toArray cs.toArray)) (ha:Args ρ os vs) (hfn:Aq C.P f=true)
  (spec:Ay C.P f (fs++vs++cs) lin I' out) (hl:l.Perm (lin++lrest)) (hI:∀ w,I w→I' w)
  (k:∀ x,(out x).p→KJ C K δ ((d,(out x).v)::ρ) ((out x).l++lrest) (fun w=>(out x).J w∧I w)):KJ C (Ax C ops o K Q) δ ρ l I:=by
 subst ho
 refine Gf rfl (by simp) fun a w hs hw=>?_
 have hw:=hw.perm hl.symm
 have hm:=ha.map hs
 have hrun:(execOp a.eval ⟨some d,.call ⟨.value g,os.toArray,tys⟩,t,p,af,none⟩).run C.P w=.ok (.enter f (fs++vs++cs).toArray) w:=by
  simp [execOp,resolve,Deferred.ofValue,hs.ev hg,invoke,hm,Fa hfn]
 rw [hrun,Oper.uponIn_enter]
 refine ⟨fun h=>by simp [wf] at h,((Kr (spec _ w (hw.hand hI))).mono ?_)⟩
 rintro e w' ⟨x,hp,rfl,hw'⟩
 exact k x hp _ w' (hs.put hd _) (hw.back hw')
theorem call {d:Nat} {f:FuncId} {g:Operand} {fs vs cs:List Value} {os:List Operand} {tys:Array TypeId} {I':World→Prop} {α:Type} {out:α→Out}
  (hd:Nat.blt d C.N=true) (hg:Bw ρ g=some (.func (.func f) fs.toArray cs.toArray)) (ha:Args ρ os vs) (hfn:Aq C.P f=true)
  (spec:Ay C.P f (fs++vs++cs) [] I' out) (hI:∀ w,I w→I' w)
  (k:∀ x,(out x).p→KJ C K δ ((d,(out x).v)::ρ) ((out x).l++l) (fun w=>(out x).J w∧I w)):KJ C (Ax C ops ⟨some d,.call ⟨.value g,os.toArray,tys⟩,t,p,af,none⟩ K Q) δ ρ l I :=
 st_call rfl hd hg ha hfn spec (.refl _) hI k
theorem Ao {d:Nat} {f:FuncId} {g:Operand} {fs vs cs:List Value} {os:List Operand} {tys:Array TypeId} {I':World→Prop} {out:Unit→Out}
  (hd:Nat.blt d C.N=true) (hg:Bw ρ g=some (.func (.func f) fs.toArray cs.toArray)) (ha:Args ρ os vs) (hfn:Aq C.P f=true)
  (spec:Ay C.P f (fs++vs++cs) [] I' out) (hI:∀ w,I w→I' w) (hl:(out ()).l=[])
  (k:(out ()).p→KJ C K δ ((d,(out ()).v)::ρ) l (fun w=>(out ()).J w∧I w)):KJ C (Ax C ops ⟨some d,.call ⟨.value g,os.toArray,tys⟩,t,p,af,none⟩ K Q) δ ρ l I :=
 call hd hg ha hfn spec hI (fun x hp=>by cases x; rw [hl]; exact k hp)
theorem Upd.perm {α} {l l':List α} {e e':α} (h:Upd l e e' l'):∃ r,l.Perm (e::r)∧l'.Perm (e'::r):=by
 induction h with
 | head=>exact ⟨_,.refl _,.refl _⟩
 | @tail e e' x l l' _ ih =>
  obtain ⟨r,h1,h2⟩:=ih
  exact ⟨x::r,(h1.cons x).trans (.swap _ _ _),(h2.cons x).trans (.swap _ _ _)⟩
theorem Ce {d:Nat} {f:FuncId} {g:Operand} {fs vs cs:List Value} {os:List Operand} {tys:Array TypeId} {I':World→Prop} {α:Type} {out:α→Out} {e:A9} {e':α→A9} {l':α→List A9} [hne:Nonempty α]
  (hd:Nat.blt d C.N=true) (hg:Bw ρ g=some (.func (.func f) fs.toArray cs.toArray)) (ha:Args ρ os vs) (hfn:Aq C.P f=true)
  (spec:Ay C.P f (fs++vs++cs) [e] I' out) (hu:∀ x,Upd l e (e' x) (l' x)) (ho:∀ x,(out x).l=[e' x]) (hI:∀ w,I w→I' w)
  (k:∀ x,(out x).p→KJ C K δ ((d,(out x).v)::ρ) (l' x) (fun w=>(out x).J w∧I w)):KJ C (Ax C ops ⟨some d,.call ⟨.value g,os.toArray,tys⟩,t,p,af,none⟩ K Q) δ ρ l I:=by
 have hr:∃ r,l.Perm (e::r)∧∀ x,(l' x).Perm (e' x::r):=by
  obtain ⟨x0⟩:=hne
  obtain ⟨r,h1,_⟩:=(hu x0).perm
  refine ⟨r,h1,fun x=>?_⟩
  obtain ⟨r',h2,h3⟩:=(hu x).perm
  have:(e::r').Perm (e::r):=h2.symm.trans h1
  exact h3.trans (.cons _ (List.Perm.cons_inv this))
 obtain ⟨r,h1,h2⟩:=hr
 refine st_call rfl hd hg ha hfn spec (lrest:=r) h1 hI fun x hp=>?_
 rw [ho x]
 exact Cn (h2 x) (k x hp)
inductive Tmps (ρ:Da):List ResultVar→List Value→Prop
 | nil:Tmps ρ [] []
 | cons {d:Nat} {v:Value} {ds:List ResultVar} {vs:List Value}:lk ρ d=some v→Tmps ρ ds vs→Tmps ρ (.tmp d::ds) (v::vs)
inductive Ress (C:Ctx) (ρ:Da) (l:List A9):List ResultVar→List Value→Prop
 | nil:Ress C ρ l [] []
 | tmp {d:Nat} {v:Value} {ds:List ResultVar} {vs:List Value}:lk ρ d=some v→Ress C ρ l ds vs→Ress C ρ l (.tmp d::ds) (v::vs)
 | cellW {d r n b:Nat} {t te:TypeId} {segs:List Seg} {ds:List ResultVar} {vs:List Value}:lk ρ d=some (Bg r 0)→Ty C.P t true n b→bx r segs te∈l→Ke segs=n→Ress C ρ l ds vs→Ress C ρ l (.cell d t::ds) (av segs::vs)
 | cell1 {d r n b:Nat} {t te:TypeId} {segs:List Seg} {v:Value} {ds:List ResultVar} {vs:List Value}:lk ρ d=some (Bg r 0)→Ty C.P t false n b→bx r segs te∈l→Hg segs 0=some v→Ress C ρ l ds vs→Ress C ρ l (.cell d t::ds) (v::vs)
def resOf (tm:Array Value):ResultVar→Sem Value
 | .tmp t=>pure (tm.getD t undef)
 | .cell a' t=>do loadVar t (← asAddr (tm.getD a' undef))
theorem getD_of {tm:Array Value} {t:Nat} {v:Value} (h:tm[t]? = some v):tm.getD t undef=v:=by simp [h]
theorem Ress.run {rs:List ResultVar} {vs:List Value} (h:Ress C ρ l rs vs) {a:Act} {w:World} (ha:Sim C.N δ ρ a) (hw:WSat C.X C.M C.w0 l I w) :
  (rs.mapM (resOf a.tmps)).run C.P w=.ok vs w:=by
 induction h with
 | nil=>rfl
 | tmp hv _ ih=>simp only [List.mapM_cons,Sem.run_bind,resOf,getD_of (ha.get _ _ hv),Sem.run_pure,Result.andThen_ok,ih]
 | cellW hv ht hm hn _ ih =>
  have:=G8 ht (a:=⟨_,0,none⟩) (w:=w) ((He _).trans hn) (fun j v hv=>by
   rw [Fk,Nat.zero_add]; exact E0 (Fo hw hm) hv)
  simp only [List.mapM_cons,Sem.run_bind,resOf,getD_of (ha.get _ _ hv),Sem.run_pure,Result.andThen_ok,ih,asAddr,this]
 | cell1 hv ht hm hs _ ih =>
  have:=Iu ht (a:=⟨_,0,none⟩) (w:=w) (E0 (Fo hw hm) (cellAt_get hs))
  simp only [List.mapM_cons,Sem.run_bind,resOf,getD_of (ha.get _ _ hv),Sem.run_pure,Result.andThen_ok,ih,asAddr,this]
def resV:List Value→Value
 | [v]=>v
 | vs=>.tuple vs.toArray
theorem run_results {fn:Func} {rs:List ResultVar} {vs:List Value} (hr:fn.results=rs.toArray) (h:Ress C ρ l rs vs) {a:Act} {w:World} (ha:Sim C.N δ ρ a) (hw:WSat C.X C.M C.w0 l I w) :
  (results fn a.tmps).run C.P w=.ok (resV vs) w:=by
 have:=h.run ha hw
 have e:results fn a.tmps=(do
   let vs ← fn.results.mapM (resOf a.tmps)
   pure (if h:vs.size=1 then vs[0] else .tuple vs)):=rfl
 rw [e,hr]
 simp only [List.mapM_toArray,Sem.run_bind,Sem.run_map,this,Result.andThen_ok,Sem.run_pure]
 match vs with
 | []=>rfl
 | [v]=>rfl
 | _::_::_=>simp [resV]
theorem As {fn:Func} {X:Nat→Prop} {lin:List A9} {w0:World} {α:Type} {out:α→Out} {rs:List ResultVar} {vs:List Value} {N:Nat} {P:Program} {e:Exit} (x:α)
  (hr:fn.results=rs.toArray) (hv:Ress (ctx P N X lin w0) ρ l rs vs) (he:resV vs=(out x).v) (hp:(out x).p) (hl:(out x).l.Sublist l) (hI:∀ w,I w→(out x).J w) (hn:e=.ret∨e=.normal) :
  KJ (ctx P N X lin w0) (bodyPost P fn (Post X lin w0 out) e) [] ρ l I:=by
 intro a w ha hw
 have key:a.defers=[]∧∃ v,(results fn a.tmps).run P w=.ok v w∧Post X lin w0 out (.returned v) w :=
  ⟨ha.dfr,resV vs,run_results (C:=ctx P N X lin w0) hr hv ha hw,x,hp,by rw [he],(hw.sub hl).imp hI⟩
 rcases hn with rfl | rfl <;> exact key
end Go.Chx
namespace Go.Chx
open Go
variable {C:Ctx} {δ:List Deferred} {ρ:Da} {l:List A9} {I:World→Prop} {K:Act→World→Prop} {Q:Exit→Act→World→Prop} {ops:Array Oper}
variable {t:TypeId} {p:String} {af:Array Edge}
def At (w:World) (oa:Option Addr) (cs:List Value):Prop:=∃ b,oa=some b∧∀ j v,cs[j]? = some v→w.cell? (b.add j)=some v
def SlR (sz:Nat) (v:Value) (css:List (List Value)) (w:World):Prop :=
 ∃ a cap,v=.slice a css.length cap∧css.length≤cap∧∀ i cs,css[i]? = some cs→At w (a.map (·.add (i*sz))) cs
theorem SlR.shape {sz:Nat} {v:Value} {css:List (List Value)} {w:World} (h:SlR sz v css w):∃ a cap,v=.slice a css.length cap∧css.length≤cap :=
 let ⟨a,cap,h1,h2,_⟩:=h; ⟨a,cap,h1,h2⟩
theorem SlR.elem {sz n cap:Nat} {a:Option Addr} {css:List (List Value)} {w:World} (h:SlR sz (.slice a n cap) css w) {i:Nat} {cs:List Value} (hi:css[i]? = some cs):At w (a.map (·.add (i*sz))) cs:=by
 obtain ⟨a',cap',h1,h2,h3⟩:=h
 cases h1
 exact h3 i cs hi
theorem SlR.some {sz n cap:Nat} {a:Option Addr} {css:List (List Value)} {w:World} (h:SlR sz (.slice a n cap) css w) (hn:0 < n):∃ b,a=.some b:=by
 obtain ⟨a',cap',h1,h2,h3⟩:=h
 cases h1
 have hl:(0:Nat) < css.length:=hn
 obtain ⟨b,hb,_⟩:=h3 0 css[0] (List.getElem?_eq_getElem hl)
 cases a with
 | none=>simp at hb
 | some b=>exact ⟨b,rfl⟩
theorem Fc {d n b len cap:Nat} {te:TypeId} {x y:Operand} {s:TypeId} {agg:Bool} {j:IntKind} {i:Int} {a:Option Addr} (hd:Nat.blt d C.N=true) (hx:Bw ρ x=some (.slice a len cap)) (hy:Bw ρ y=some (.int j i)) (hu:C.P.underlying s=some (.slice te)) (ht:Ty C.P te agg n b) (hi:0≤i∧i < len)
  (ha:∀ w,I w→∃ b,a=some b)
  (k:KJ C K δ ((d,.pointer (a.map (·.add (i.toNat*n))))::ρ) l I):KJ C (Ax C ops ⟨some d,.indexAddr s x y,t,p,af,none⟩ K Q) δ ρ l I :=
 fun a' w hs hw=>by
  obtain ⟨b,rfl⟩:=ha w hw.fr.holds
  exact ixs hd hx hy hu ht hi k a' w hs hw
theorem A4 {d n b:Nat} {x:Operand} {tt:TypeId} {oa:Option Addr} {v:Value} (hd:Nat.blt d C.N=true) (hx:Bw ρ x=some (.pointer oa)) (ht:Ty C.P tt false n b)
  (hi:∀ w,I w→At w oa [v]) (k:KJ C K δ ((d,v)::ρ) l I) :
  KJ C (Ax C ops ⟨some d,.load tt x,t,p,af,none⟩ K Q) δ ρ l I :=
 fun a' w hs hw=>by
  obtain ⟨b,rfl,_⟩:=hi w hw.fr.holds
  refine ldI1 hd hx ht (fun w h=>?_) k a' w hs hw
  obtain ⟨b',hb,hc⟩:=hi w h
  cases hb
  have:=hc 0 v rfl
  simpa [Addr.add] using this
theorem D4 {d n b:Nat} {x:Operand} {tt:TypeId} {oa:Option Addr} {cs:List Value} (hd:Nat.blt d C.N=true) (hx:Bw ρ x=some (.pointer oa)) (ht:Ty C.P tt true n b) (hn:cs.length=n)
  (hi:∀ w,I w→At w oa cs) (k:KJ C K δ ((d,.agg cs.toArray)::ρ) l I) :
  KJ C (Ax C ops ⟨some d,.load tt x,t,p,af,none⟩ K Q) δ ρ l I :=
 fun a' w hs hw=>by
  obtain ⟨b,rfl,_⟩:=hi w hw.fr.holds
  refine ldIA hd hx ht hn (fun w h=>?_) k a' w hs hw
  obtain ⟨b',hb,hc⟩:=hi w h
  cases hb
  exact hc
theorem fold_put (u:List Value):∀ (off k:Nat) (arr:Array Value),off+k+u.length≤arr.size →
  ((u.zipIdx k).foldl (fun cs (q:Value × Nat)=>cs.setIfInBounds (off+q.2) q.1) arr)=(arr.toList.take (off+k)++u++arr.toList.drop (off+k+u.length)).toArray:=by
 induction u with
 | nil=>intro off k arr h; simp
 | cons v u ih =>
  intro off k arr h
  simp only [List.zipIdx_cons,List.foldl_cons]
  simp only [List.length_cons] at h
  rw [ih off (k+1) _ (by simp; omega)]
  apply Array.toList_inj.1
  simp only [Array.toList_setIfInBounds]
  have e:off+(k+1)=off+k+1:=by omega
  rw [e]
  have h1:(arr.toList.set (off+k) v).take (off+k+1)=arr.toList.take (off+k)++[v]:=by
   rw [List.take_succ_eq_append_getElem (by simp; omega)]
   simp only [List.getElem_set_self]
   congr 1
   apply List.ext_getElem?
   intro j
   simp only [List.getElem?_take,List.getElem?_set]
   by_cases hj:j < off+k
   ·rw [if_pos hj,if_pos hj,if_neg (by omega)]
   ·rw [if_neg hj,if_neg hj]
  have h2:(arr.toList.set (off+k) v).drop (off+k+1+u.length)=arr.toList.drop (off+k+1+u.length):=by
   rw [List.drop_set_of_lt (by omega)]
  rw [h1,h2]
  simp only [List.length_cons,List.append_assoc,List.singleton_append,List.cons_append,List.nil_append]
  rw [show off+k+1+u.length=off+k+(u.length+1) from by omega]
inductive Bld (ρ:Da):List (Nat × Operand)→List Seg→List Seg→Prop
 | nil {s:List Seg}:Bld ρ [] s s
 | one {i:Nat} {o:Operand} {v:Value} {ps:List (Nat × Operand)} {cur cur' fin:List Seg} (h1:v.oneCell'=true):Bw ρ o=some v→SUpd cur i (S1 v h1) cur'→Bld ρ ps cur' fin→Bld ρ ((i,o)::ps) cur fin
 | agg {i:Nat} {o:Operand} {s:Seg} {ps:List (Nat × Operand)} {cur cur' fin:List Seg}:Bw ρ o=some (.agg s.cs.toArray)→SUpd cur i s cur'→Bld ρ ps cur' fin→Bld ρ ((i,o)::ps) cur fin
def LayOK (P:Program) (t:TypeId) (zs:List Seg):Prop :=
 Jq P t zs∧∃ fs,P.underlying t=some (.struct fs)∧fs.toList.map (fun f=>(f.offset,(P.info? f.type).map (·.size)))=(List.range zs.length).map (fun i=>(Hi zs i,(zs[i]?).map (·.n)))
theorem SUpd.ns {segs segs':List Seg} {i:Nat} {s:Seg} (h:SUpd segs i s segs'):segs'.map (·.n)=segs.map (·.n)∧(segs[i]?).map (·.n)=some s.n:=by
 induction h with
 | head hn=>simp [hn]
 | tail _ ih=>simpa using ih
theorem offI_ns:∀ {a b:List Seg} (h:a.map (·.n)=b.map (·.n)) (i:Nat),Hi a i=Hi b i:=by
 intro a
 induction a with
 | nil=>intro b h i; cases b with
  | nil=>rfl
  | cons _ _=>simp at h
 | cons x a ih=>intro b h i; cases b with
  | nil=>simp at h
  | cons y b =>
   simp only [List.map_cons,List.cons.injEq] at h
   cases i with
   | zero=>rfl
   | succ i=>simp only [Hi,h.1,ih h.2 i]
theorem Bld.fill {ps:List (Nat × Operand)} {cur fin:List Seg} (h:Bld ρ ps cur fin) {N δ} {a:Act} (ha:Sim N δ ρ a) {place:Nat→Option (Nat × Nat)} :
  (∀ i n,(cur[i]?).map (·.n)=some n→place i=some (Hi cur i,n))→Instr.fill place (flat cur).toArray (ps.map fun q=>(q.1,a.eval q.2))=some (flat fin).toArray:=by
 have step:∀ {i:Nat} {s:Seg} {cur cur':List Seg} {rest:List (Nat × Value)} {v:Value},SUpd cur i s cur'→v.cells=s.cs.toArray→(∀ i n,(cur[i]?).map (·.n)=some n→place i=some (Hi cur i,n)) →
   Instr.fill place (flat cur).toArray ((i,v)::rest)=Instr.fill place (flat cur').toArray rest:=by
  intro i s cur cur' rest v hs hv hp
  obtain ⟨h1,h2⟩:=hs.flat
  have hpl:=hp i s.n hs.ns.2
  simp only [Instr.fill,hpl,hv]
  have hl:=s.h
  rw [if_neg (by simp [s.h]; omega)]
  have:=fold_put s.cs (Hi cur i) 0 (flat cur).toArray (by simp [s.h]; omega)
  simp only [Nat.add_zero,s.h] at this
  rw [h2]
  congr 1
  rw [← this]
  rw [← Array.foldl_toList,Array.toList_zipIdx]
 induction h with
 | nil=>intro _; rfl
 | @one i o v ps cur cur' fin h1 ho hs _ ih =>
  intro hp
  simp only [List.map_cons,ha.ev ho]
  rw [step hs (by rw [I8 h1]) hp]
  refine ih fun j n hj=>?_
  have e:(cur'[j]?).map (·.n)=(cur[j]?).map (·.n):=by
   have:=congrArg (·[j]?) hs.ns.1
   simpa using this
  rw [hp j n (e ▸ hj),offI_ns hs.ns.1]
 | @agg i o s ps cur cur' fin ho hs _ ih =>
  intro hp
  simp only [List.map_cons,ha.ev ho]
  rw [step hs rfl hp]
  refine ih fun j n hj=>?_
  have e:(cur'[j]?).map (·.n)=(cur[j]?).map (·.n):=by
   have:=congrArg (·[j]?) hs.ns.1
   simpa using this
  rw [hp j n (e ▸ hj),offI_ns hs.ns.1]
theorem run_places {P:Program} (w:World):∀ (fs:List Field) (out:List (Nat × Option Nat)),fs.map (fun f=>(f.offset,(P.info? f.type).map (·.size)))=out→∀ ns:List (Nat × Nat),out=ns.map (fun q=>(q.1,some q.2)) →
  (fs.mapM (fun f=>do pure (f.offset,← Go.sizeOf f.type):Field→Sem (Nat × Nat))).run P w=.ok ns w:=by
 intro fs
 induction fs with
 | nil =>
  intro out h ns hns
  subst h
  cases ns with
  | nil=>rfl
  | cons _ _=>simp at hns
 | cons f fs ih =>
  intro out h ns hns
  subst h
  cases ns with
  | nil=>simp at hns
  | cons q ns =>
   simp only [List.map_cons,List.cons.injEq,Prod.mk.injEq] at hns
   obtain ⟨⟨h1,h2⟩,h3⟩:=hns
   obtain ⟨i,hi,hs⟩:=Option.map_eq_some_iff.1 h2
   have hsz:(Go.sizeOf f.type).run P w=.ok q.2 w:=by simp [Go.sizeOf,typeInfo,hi,hs]
   simp only [List.mapM_cons,Sem.run_bind,hsz,Result.andThen_ok,Sem.run_pure,ih _ rfl ns h3,h1]
theorem bld {d:Nat} {tt:TypeId} {ps:List (Nat × Operand)} {zs segs:List Seg} (hd:Nat.blt d C.N=true) (hl:LayOK C.P tt zs) (hb:Bld ρ ps zs segs)
  (k:KJ C K δ ((d,av segs)::ρ) l I):KJ C (Ax C ops ⟨some d,.build tt ps.toArray,t,p,af,none⟩ K Q) δ ρ l I :=
 Bm rfl rfl (by simp) hd (fun a w ha hw=>by
  obtain ⟨⟨z,hz,hzc⟩,fs,hu,hfs⟩:=hl
  have hpl:=run_places (P:=C.P) w fs.toList _ rfl ((List.range zs.length).map fun i=>(Hi zs i,((zs[i]?).map (·.n)).getD 0)) (by
   rw [hfs,List.map_map]
   apply List.map_congr_left
   intro i hi
   have hi':i < zs.length:=by simpa using hi
   simp [List.getElem?_eq_getElem hi'])
  have hfill:=hb.fill ha (place:=(((List.range zs.length).map fun i=>(Hi zs i,((zs[i]?).map (·.n)).getD 0)).toArray[·]?)) (by
   intro i n hn
   obtain ⟨s,hs,hsn⟩:=Option.map_eq_some_iff.1 hn
   obtain ⟨hi,he⟩:=List.getElem?_eq_some_iff.1 hs
   simp [hi,he,hsn])
  have e1:fs=fs.toList.toArray:=by simp
  simp only [execOp,Instr.build,Sem.run_bind,G6 hz,run_underlying hu,Result.andThen_ok,hzc]
  rw [e1]
  simp only [List.mapM_toArray,Sem.run_map,hpl,Result.andThen_ok]
  simp only [List.map_toArray,hfill]
  rfl) k
inductive Els (ρ:Da):List (Nat × Operand)→Nat→List Seg→Prop
 | nil {i:Nat}:Els ρ [] i []
 | one {i:Nat} {o:Operand} {v:Value} {ps:List (Nat × Operand)} {ss:List Seg} (h1:v.oneCell'=true):Bw ρ o=some v→Els ρ ps (i+1) ss→Els ρ ((i,o)::ps) i (S1 v h1::ss)
 | agg {i:Nat} {o:Operand} {s:Seg} {ps:List (Nat × Operand)} {ss:List Seg}:Bw ρ o=some (.agg s.cs.toArray)→Els ρ ps (i+1) ss→Els ρ ((i,o)::ps) i (s::ss)
theorem fillEls {N δ} {a:Act} (ha:Sim N δ ρ a) {sz:Nat} {zero:List Value}:∀ {ps:List (Nat × Operand)} {i:Nat} {ss:List Seg},Els ρ ps i ss→(∀ s∈ss,s.n=sz)→∀ (pre:List Value),pre.length=i*sz→∀ post:List Value,post.length=ss.length*sz →
  Instr.fill (fun i=>some (i*sz,sz)) (pre++post).toArray (ps.map fun q=>(q.1,a.eval q.2))=some (pre++flat ss).toArray:=by
 have step:∀ {i:Nat} {s:Seg} {v:Value} {rest:List (Nat × Value)} (pre post:List Value),s.n=sz→v.cells=s.cs.toArray→pre.length=i*sz→sz≤post.length →
   Instr.fill (fun i=>some (i*sz,sz)) (pre++post).toArray ((i,v)::rest)=Instr.fill (fun i=>some (i*sz,sz)) ((pre++s.cs)++post.drop sz).toArray rest:=by
  intro i s v rest pre post hs hv hp hl
  simp only [Instr.fill,hv]
  rw [if_neg (by simp [s.h,hs,hp]; omega)]
  have:=fold_put s.cs (i*sz) 0 (pre++post).toArray (by simp [s.h,hs,hp]; omega)
  simp only [Nat.add_zero,s.h,hs] at this
  congr 1
  rw [← Array.foldl_toList,Array.toList_zipIdx]
  rw [show (s.cs.toArray.toList.zipIdx)=s.cs.zipIdx from rfl,this]
  apply congrArg
  simp only [List.take_append,List.drop_append,← hp]
  simp [List.drop_of_length_le]
 intro ps
 induction ps with
 | nil =>
  intro i ss h hs pre hp post hl
  cases h
  simp at hl
  simp [Instr.fill,flat,hl]
 | cons q ps ih =>
  intro i ss h hs pre hp post hl
  cases h with
  | one h1 ho ht =>
   rename_i o v ss
   have hn:(S1 v h1).n=sz:=hs _ (.head _)
   simp only [List.length_cons,Nat.add_mul,Nat.one_mul] at hl
   simp only [List.map_cons,ha.ev ho]
   rw [step pre post hn (by rw [I8 h1]) hp (by omega)]
   rw [ih ht (fun s hm=>hs s (.tail _ hm)) _ (by rw [List.length_append,hp,(S1 v h1).h,hn,Nat.add_mul,Nat.one_mul]) _ (by rw [List.length_drop]; omega)]
   simp [flat]
  | agg ho ht =>
   rename_i o s ss
   have hn:s.n=sz:=hs _ (.head _)
   simp only [List.length_cons,Nat.add_mul,Nat.one_mul] at hl
   simp only [List.map_cons,ha.ev ho]
   rw [step pre post hn rfl hp (by omega)]
   rw [ih ht (fun s hm=>hs s (.tail _ hm)) _ (by simp only [List.length_append,hp,s.h,hn,Nat.add_mul,Nat.one_mul]) _ (by rw [List.length_drop]; omega)]
   simp [flat]
theorem F7 {d len:Nat} {tt te:TypeId} {ps:List (Nat × Operand)} {ss zs:List Seg} {agg:Bool} {sz b:Nat} (hd:Nat.blt d C.N=true) (hu:C.P.underlying tt=some (.slice te)) (ht:Ty C.P te agg sz b) (hz:Jq C.P te zs) (hb:Els ρ ps 0 ss)
  (hs:∀ s∈ss,s.n=sz) (hlen:ss.length=len) (hsm:len*sz≤16777216) (hzl:Ke zs=sz)
  (k:∀ r,KJ C K δ ((d,.slice (some ⟨r,0,none⟩) len len)::ρ) (bx r ss te::l) I):KJ C (Ax C ops ⟨some d,.buildSlice tt len ps.toArray,t,p,af,none⟩ K Q) δ ρ l I :=
 Jw (v:=fun r=>.slice (some ⟨r,0,none⟩) len len) (ob:=.cells (flat ss).toArray te (0,0)) rfl rfl (by simp) hd (fun a w ha hw=>by
  obtain ⟨z,hz,hzc⟩:=hz
  have key:∀ zero:Array Value,Instr.fill (fun i=>some (i*sz,sz)) ((Array.range (len*sz)).map (zero[· % zero.size]!)) ((ps.toArray.map fun q=>(q.1,a.eval q.2)).toList)=some (flat ss).toArray:=by
   intro zero
   have:=fillEls ha (sz:=sz) (zero:=[]) hb hs [] (by simp) ((Array.range (len*sz)).map (zero[· % zero.size]!)).toList (by simp [hlen])
   simp only [List.nil_append,Array.toArray_toList] at this
   rw [← this]
   simp
  simp only [execOp,Instr.buildSlice,Sem.run_bind,run_underlying hu,ht.size,Result.andThen_ok]
  rw [if_neg (by omega)]
  by_cases h0:len*sz=0
  ·rw [if_pos h0]
   simp only [Sem.run_bind,Sem.run_pure,Result.andThen_ok,key]
   rfl
  ·rw [if_neg h0]
   simp only [Sem.run_bind,Sem.run_pure,Result.andThen_ok,G6 hz,key]
   rfl) k
end Go.Chx
namespace Go.Chx
open Go
variable {C:Ctx} {δ:List Deferred} {ρ:Da} {l:List A9} {I:World→Prop} {K:Act→World→Prop} {Q:Exit→Act→World→Prop} {ops:Array Oper}
variable {t:TypeId} {p:String} {af:Array Edge}
def An (bs:List UInt8):List Value:=bs.map fun b=>.int .u8 (b.toNat:Int)
theorem Br (bs:List UInt8):(An bs).length=bs.length:=by simp [An]
theorem Co (bs:List UInt8):(An bs).all (·.oneCell')=true:=by
 rw [List.all_eq_true]; intro v h; obtain ⟨b,_,rfl⟩:=List.mem_map.1 h; rfl
def It (n:Nat) (bs:List UInt8) (h:bs.length=n):Seg:=⟨n,An bs,by rw [Br,h],Co bs⟩
def zby (n:Nat):Seg:=It n (List.replicate n 0) (by simp)
def Av (k:IntKind) (xs:List Int):List Value:=xs.map (.int k)
theorem icells_len (k:IntKind) (xs:List Int):(Av k xs).length=xs.length:=by simp [Av]
theorem icells_one (k:IntKind) (xs:List Int):(Av k xs).all (·.oneCell')=true:=by
 rw [List.all_eq_true]; intro v h; obtain ⟨b,_,rfl⟩:=List.mem_map.1 h; rfl
def Gi (k:IntKind) (n:Nat) (xs:List Int) (h:xs.length=n):Seg:=⟨n,Av k xs,by rw [icells_len,h],icells_one k xs⟩
def zia (k:IntKind) (n:Nat):Seg:=Gi k n (List.replicate n 0) (by simp)
def Fr (n:Nat) (cs:List Value) (h:cs.length=n:=by rfl) (h1:cs.all (·.oneCell')=true:=by rfl):Seg:=⟨n,cs,h,h1⟩
structure Dig where
 b:List UInt8
 h:b.length=32
def Dig.zero:Dig:=⟨List.replicate 32 0,by simp⟩
def sd (d:Dig):Seg:=It 32 d.b d.h
abbrev dv (d:Dig):Value:=.agg (sd d).cs.toArray
theorem Dn {d:Nat} {b:Bool} (hb:lk ρ d=some (.bool b)) (ht:b=true→KJ C K δ ((d,.bool true)::ρ) l I) (hf:b=false→KJ C K δ ((d,.bool false)::ρ) l I):KJ C K δ ρ l I:=by
 have key:∀ u,lk ρ d=some u→∀ t v,lk ((d,u)::ρ) t=some v→lk ρ t=some v:=by
  intro u hu t v h
  simp only [lk] at h
  cases e:Nat.beq d t with
  | true=>rw [e] at h; have:=Nat.eq_of_beq_eq_true e; subst this; simp at h; subst h; exact hu
  | false=>rw [e] at h; exact h
 cases b with
 | true=>exact fun a w ha hw=>ht rfl a w (ha.sub (key _ hb)) hw
 | false=>exact fun a w ha hw=>hf rfl a w (ha.sub (key _ hb)) hw
theorem B5 {d:Nat} {q:Prop} [Decidable q] (hb:lk ρ d=some (.bool (decide q))) (ht:q→KJ C K δ ((d,.bool true)::ρ) l I) (hf : ¬ q→KJ C K δ ((d,.bool false)::ρ) l I):KJ C K δ ρ l I :=
 Dn hb (fun h=>ht (of_decide_eq_true h)) (fun h=>hf (of_decide_eq_false h))
theorem Kh {d:Nat} {m n:Int} (hb:lk ρ d=some (.bool (m == n))) (ht:m=n→KJ C K δ ((d,.bool true)::ρ) l I) (hf:m≠n→KJ C K δ ((d,.bool false)::ρ) l I):KJ C K δ ρ l I :=
 Dn hb (fun h=>ht (by simpa using h)) (fun h=>hf (by simpa using h))
theorem kj_ne {d:Nat} {m n:Int} (hb:lk ρ d=some (.bool (m != n))) (ht:m≠n→KJ C K δ ((d,.bool true)::ρ) l I) (hf:m=n→KJ C K δ ((d,.bool false)::ρ) l I):KJ C K δ ρ l I :=
 Dn hb (fun h=>ht (by simpa using h)) (fun h=>hf (by simpa using h))
theorem wrap_u8 {m:Int} (h:0≤m∧m < 256):IntKind.wrap .u8 m=m:=by
 simp only [IntKind.wrap,IntKind.bits,IntKind.signed]
 simp; omega
theorem C4 {m:Int} (h:0≤m∧m < 18446744073709551616):IntKind.wrap .u64 m=m:=by
 simp only [IntKind.wrap,IntKind.bits,IntKind.signed]
 simp; omega
theorem E9 (m:Int):IntKind.wrap .u64 m=m % 18446744073709551616:=by
 simp only [IntKind.wrap,IntKind.bits,IntKind.signed]
 simp
theorem wrap_u32_mod (m:Int):IntKind.wrap .u32 m=m % 4294967296:=by
 simp only [IntKind.wrap,IntKind.bits,IntKind.signed]
 simp
theorem H0 (m:Int):IntKind.wrap .u8 m=m % 256:=by
 simp only [IntKind.wrap,IntKind.bits,IntKind.signed]
 simp
theorem Ac {d:Nat} {u v:Value} (he:lk ρ d=some u) (huv:u=v) (k:KJ C K δ ((d,v)::ρ) l I):KJ C K δ ρ l I:=by
 subst huv
 intro a w ha hw
 refine k a w (ha.sub ?_) hw
 intro t v h
 simp only [lk] at h
 cases e:Nat.beq d t with
 | true=>rw [e] at h; have:=Nat.eq_of_beq_eq_true e; subst this; simp at h; subst h; exact he
 | false=>rw [e] at h; exact h
end Go.Chx
