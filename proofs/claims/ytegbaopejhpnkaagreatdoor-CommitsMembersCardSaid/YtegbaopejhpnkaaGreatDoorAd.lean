/- Part of the proof that the law CommitsMembers holds. -/
import Derived.RangeFuncRecord
import Derived.Laws.AppendOwn
import Derived.Laws.Slices
import Derived.Laws.MakeOwn
import Derived.Laws.CopyRow
import Derived.Test.YtegbaopejhpnkaaGreatDoorAa
import Derived.Test.YtegbaopejhpnkaaGreatDoorAc
namespace Go.Chx
open Go
variable {C:Ctx} {δ:List Deferred} {ρ:Da} {l:List A9} {I:World→Prop} {K:Act→World→Prop} {Q:Exit→Act→World→Prop} {ops:Array Oper}
variable {t:TypeId} {p:String} {af:Array Edge}
def H2 (s:LoopState) (fn:FuncId) (tm:Array Value) (ps:Array Tmp) (as bd:Code) (rd:Nat):Obj:=.loop { state:=s,pending:=none,fn:=fn,tmps:=tm,params:=ps,assign:=as,body:=bd,defers:=rd }
abbrev mkE (rd:Nat):A9:=some (rd,.deferred (some []))
abbrev mkD (rd:Nat):Deferred:={ target:=.collected rd,args:=#[] }
def Yields (P:Program) (y:Nat) (args:List Value) (lin:List A9) (I:World→Prop) {α:Type} (out:α→Out):Prop :=
 ∀ (X:Nat→Prop) (w:World),WSat X (·∈keys lin) w lin I w→∃ f tm as bd,(Instr.yield y args.toArray).run P w=.ok (.round y f tm as bd) w∧RoundIn (wf none) 0 P y f tm as bd w (Post X lin w out)
def YL (P:Program) (y:Nat) {σ β:Type} (enc:β→List Value) (E:β→Prop) (Ps:σ→Prop) (L:σ→List A9) (J:σ→World→Prop) (T:σ→β→σ→Prop):Prop :=
 ∀ s x,E x→Ps s→Yields P y (enc x) (L s) (J s) (fun s'=>⟨Ps s'∧T s x s',.bool true,L s',J s'⟩)
inductive Run {σ β:Type} (T:σ→β→σ→Prop):List β→σ→σ→Prop
 | nil {s:σ}:Run T [] s s
 | cons {x:β} {xs:List β} {s s1 s':σ}:T s x s1→Run T xs s1 s'→Run T (x::xs) s s'
theorem Run.snoc {σ β:Type} {T:σ→β→σ→Prop} {xs:List β} {s s1 s':σ} {x:β} (h:Run T xs s s1) (hx:T s1 x s'):Run T (xs++[x]) s s':=by
 induction h with
 | nil=>exact .cons hx .nil
 | cons h _ ih=>exact .cons h (ih hx)
theorem Run.foldl {σ β:Type} {f:σ→β→σ} {T:σ→β→σ→Prop} (hT:∀ s x s',T s x s'→s'=f s x) {xs:List β} {s s':σ} (h:Run T xs s s'):s'=xs.foldl f s:=by
 induction h with
 | nil=>rfl
 | cons h _ ih=>rw [ih,hT _ _ _ h]; rfl
def ItSpec (P:Program) (f:FuncId) (fs cs:List Value) (I':World→Prop) {β:Type} (enc:β→List Value) (E:β→Prop) (G:List β→Prop):Prop :=
 ∀ (y:Nat) (σ:Type) (Ps:σ→Prop) (L:σ→List A9) (J:σ→World→Prop) (T:σ→β→σ→Prop),YL P y enc E Ps L J T→∀ s0,Ps s0 →
  Ay P f (fs++[.func (.yield y) #[] #[]]++cs) (L s0) (fun w=>J s0 w∧I' w) (fun s'=>⟨Ps s'∧∃ xs,G xs∧Run T xs s0 s',.tuple #[],L s',J s'⟩)
theorem st_yld {o:Oper} {d y:Nat} {g:Operand} {vs:List Value} {os:List Operand} {tys:Array TypeId} {lin lrest:List A9} {I':World→Prop} {α:Type} {out:α→Out}
  (ho:o=⟨some d,.call ⟨.value g,os.toArray,tys⟩,t,p,af,none⟩) (hd:Nat.blt d C.N=true) (hg:Bw ρ g=some (.func (.yield y) #[] #[])) (ha:Args ρ os vs)
  (hy:Yields C.P y vs lin I' out) (hl:l.Perm (lin++lrest)) (hI:∀ w,I w→I' w)
  (k:∀ x,(out x).p→KJ C K δ ((d,(out x).v)::ρ) ((out x).l++lrest) (fun w=>(out x).J w∧I w)):KJ C (Ax C ops o K Q) δ ρ l I:=by
 subst ho
 refine Gf rfl (by simp) fun a w hs hw=>?_
 have hw:=hw.perm hl.symm
 have hm:=ha.map hs
 obtain ⟨f,tm,as,bd,hrun,hround⟩:=hy _ w (hw.hand hI)
 have hrun:(execOp a.eval ⟨some d,.call ⟨.value g,os.toArray,tys⟩,t,p,af,none⟩).run C.P w=.ok (.round y f tm as bd) w:=by
  simp [execOp,resolve,Deferred.ofValue,hs.ev hg,invoke,hm,hrun]
 rw [hrun,Oper.uponIn_round]
 refine ⟨fun h=>by simp [wf] at h,?_⟩
 have hround:RoundIn (wf C.ro) (0-1) C.P y f tm as bd w _:=hround
 refine hround.mono ?_
 rintro e w' ⟨x,hp,rfl,hw'⟩
 exact k x hp _ w' (hs.put hd _) (hw.back hw')
theorem yld {σ β:Type} {own:List A9} {L:σ→List A9} {J:σ→World→Prop} {s:σ} {x:β} {enc:β→List Value} {E:β→Prop} {Ps:σ→Prop} {T:σ→β→σ→Prop} {d y:Nat} {g:Operand} {os:List Operand} {tys:Array TypeId}
  (hY:YL C.P y enc E Ps L J T) (hx:E x) (hs:Ps s) (hd:Nat.blt d C.N=true) (hg:Bw ρ g=some (.func (.yield y) #[] #[])) (ha:Args ρ os (enc x))
  (hl:l=own++L s) (hI:∀ w,I w→J s w) (k:∀ s',Ps s'→T s x s'→KJ C K δ ((d,.bool true)::ρ) (own++L s') (fun w=>J s' w∧I w)) :
  KJ C (Ax C ops ⟨some d,.call ⟨.value g,os.toArray,tys⟩,t,p,af,none⟩ K Q) δ ρ l I:=by
 subst hl
 exact st_yld rfl hd hg ha (hY s x hx hs) List.perm_append_comm hI fun s' hp=>Cn List.perm_append_comm (k s' hp.1 hp.2)
def bindE:List (Nat × Value)→Da→Da
 | [],ρ=>ρ
 | q::r,ρ=>bindE r (q::ρ)
theorem sim_bind {N:Nat}:∀ (qs:List (Nat × Value)) (ρ:Da) (tm:Array Value),Sim N [] ρ { tmps:=tm,defers:=[] }→(qs.all fun q=>Nat.blt q.1 N)=true →
  Sim N [] (bindE qs ρ) { tmps:=qs.foldl (fun tmps (q:Nat × Value)=>tmps.setIfInBounds q.1 q.2) tm,defers:=[] }
 | [],ρ,tm,h,_=>h
 | q::qs,ρ,tm,h,hq=>by
  simp only [List.all_cons,Bool.and_eq_true] at hq
  have h1:=h.put hq.1 q.2
  exact sim_bind qs _ _ (by simpa [Act.put] using h1) hq.2
abbrev rctx (C:Ctx) (rl:Nat) (X:Nat→Prop) (lin:List A9) (w:World):Ctx:={ P:=C.P,N:=C.N,ro:=some rl,X,M:=(·∈keys lin),w0:=w }
def bgnK (C:Ctx) (rl:Nat) (bd:Code) (Q:Exit→Act→World→Prop) (a:Act) (w:World):Prop:=∃ w₂,(Instr.beginRound rl).run C.P w=.ok () w₂∧cw C bd Q a w₂
theorem Ho {X M w0} {l l':List A9} {w:World} {r:Nat} {o o':Obj} (h:WSat X M w0 l I w) (hu:Upd l (some (r,o)) (some (r,o')) l'):WSat X M w0 l' I (w.putObj r o'):=by
 have hlt:=Du (h.own r o hu.mem)
 exact h.upd hu World.putObj_size (World.putObj_heap_same hlt) (fun b hb=>World.putObj_heap_other hb) rfl rfl rfl
theorem Fy {rl rd:Nat} {fn:FuncId} {tm:Array Value} {ps:Array Tmp} {as bd bd':Code} {l':List A9} (hu:Upd l (some (rl,H2 .ready fn tm ps as bd' rd)) (some (rl,H2 .busy fn tm ps as bd' rd)) l')
  (k:KJ C (cw C bd Q) δ ρ l' I):KJ C (bgnK C rl bd Q) δ ρ l I:=fun a w ha hw =>
 ⟨_,run_beginRound (hw.own _ _ hu.mem) rfl,k a _ ha (Ho hw hu)⟩
theorem Ik {P:Program} {rl rd:Nat} {fn:FuncId} {tm:Array Value} {ps:Array Tmp} {as bd:Code} {lin l':List A9} {w0:World} {X:Nat→Prop} {N:Nat} {ro:Option Nat} {α:Type} {out:α→Out} (x:α)
  (hu:Upd l (some (rl,H2 .busy fn tm ps as bd rd)) (some (rl,H2 .ready fn tm ps as bd rd)) l') (hv:(out x).v=.bool true) (hp:(out x).p) (hl:(out x).l.Sublist l') (hI:∀ w,I w→(out x).J w) :
  KJ ⟨P,N,ro,X,(·∈keys lin),w0⟩ (roundPost P rl (Post X lin w0 out) .normal) δ ρ l I:=fun a w ha hw =>
 ⟨_,_,run_endRound none (hw.own _ _ hu.mem),x,hp,by rw [hv]; rfl,((Ho hw hu).sub hl).imp hI⟩
theorem upd_append {α:Type} {l l':List α} {e e':α} (m:List α) (h:Upd l e e' l'):Upd (m++l) e e' (m++l'):=by
 induction m with
 | nil=>exact h
 | cons x m ih=>exact .tail ih
theorem perm3 {α:Type} (a b:α) (m:List α):(m++[a]++[b]).Perm (a::b::m):=by
 rw [List.append_assoc]
 exact List.perm_append_comm (l₁:=m) (l₂:=[a,b])
theorem cj_range {σ β:Type} {g:Operand} {pl:List Tmp} {as bd:Code} {f:FuncId} {fs cs:List Value} {I':World→Prop} {enc:β→List Value} {E:β→Prop} {G:List β→Prop} (hro:C.ro=none)
  (hg:Bw ρ g=some (.func (.func f) fs.toArray cs.toArray)) (hfn:Aq C.P f=true) (it:ItSpec C.P f fs cs I' enc E G)
  (st:σ→Hd) (T:σ→β→σ→Prop) (s0:σ) (hp0:(st s0).p) (hl0:(st s0).l.Sublist l) (hI':∀ w,I w→I' w) (hI0:∀ w,I w→(st s0).I w)
  (hps:∀ x,(enc x).length=pl.length∧(pl.all fun q=>Nat.blt q C.N)=true)
  (round:∀ (s:σ) (x:β),(st s).p→E x→∀ (rl rd:Nat) (fn:FuncId) (tm:Array Value) (X:Nat→Prop) (w:World),
   KJ (rctx C rl X ((st s).l++[some (rl,H2 .ready fn tm pl.toArray as bd rd)]) w)
    (cw (rctx C rl X ((st s).l++[some (rl,H2 .ready fn tm pl.toArray as bd rd)]) w) as (Exit.then (bgnK (rctx C rl X ((st s).l++[some (rl,H2 .ready fn tm pl.toArray as bd rd)]) w) rl bd
     (roundPost C.P rl (Post X ((st s).l++[some (rl,H2 .ready fn tm pl.toArray as bd rd)]) w (fun s'=>⟨(st s').p∧T s x s',.bool true,(st s').l++[some (rl,H2 .ready fn tm pl.toArray as bd rd)],(st s').I⟩)))) (fun _ _ _=>False)))
    [] (bindE (pl.zip (enc x)) ρ) ((st s).l++[some (rl,H2 .ready fn tm pl.toArray as bd rd)]) (st s).I)
  (k:∀ s' rd,(st s').p→(∃ xs,G xs∧Run T xs s0 s')→KJ C (Q .normal) (mkD rd::δ) ρ (mkE rd::(st s').l) (fun w=>(st s').I w∧I w)) :
  KJ C (cw C (.rangeFunc g pl.toArray as bd) Q) δ ρ l I:=by
 intro a w ha hw
 refine wpIn_rangeFunc fun fn _=>?_
 let rl:=w.heap.size+1
 let rd:=w.heap.size
 let rc:Obj:=H2 .ready fn a.tmps pl.toArray as bd rd
 let w1:=w.alloc (.deferred (some []))
 let w2:=w1.alloc rc
 have hw1:WSat C.X C.M C.w0 (mkE rd::l) I w1:=hw.push rfl rfl rfl rfl
 have hw2:WSat C.X C.M C.w0 (some (rl,rc)::mkE rd::l) I w2:=by
  have:=hw1.push (w':=w2) (o:=rc) rfl rfl rfl rfl
  have e:w1.heap.size=rl:=by simp [w1,rl,World.size_alloc]
  rw [e] at this
  exact this
 let L:σ→List A9:=fun s=>(st s).l++[some (rl,rc)]
 have hY:YL C.P rl enc E (fun s=>(st s).p) L (fun s=>(st s).I) T:=by
  intro s x hx hs X v hv
  have hrec:v.heap[rl]? = some (.loop { state:=.ready,pending:=none,fn:=fn,tmps:=a.tmps,params:=pl.toArray,assign:=as,body:=bd,defers:=rd }):=hv.own rl rc (List.mem_append_right _ (.head _))
  refine ⟨_,_,_,_,run_yield hrec (by simpa using (hps x).1),(roundIn_of_wpIn trivial ?_)⟩
  have hsim:Sim C.N [] ρ { tmps:=a.tmps,defers:=[] }:=⟨ha.size,rfl,ha.get⟩
  have hb:=sim_bind (pl.zip (enc x)) ρ a.tmps hsim (by
   exact List.all_eq_true.2 fun q hq=>(List.all_eq_true.1 (hps x).2 q.1 (List.of_mem_zip hq).1))
  have:=round s x hs hx rl rd fn a.tmps X v _ v hb hv
  have e2:((pl.toArray.zip (enc x).toArray).foldl (fun tmps (q:Nat × Value)=>tmps.setIfInBounds q.1 q.2) a.tmps)=(pl.zip (enc x)).foldl (fun tmps (q:Nat × Value)=>tmps.setIfInBounds q.1 q.2) a.tmps:=by simp
  change Code.wpIn _ 0 _ _ _ { tmps:=(pl.toArray.zip (enc x).toArray).foldl (fun tmps (q:Nat × Value)=>tmps.setIfInBounds q.1 q.2) a.tmps,defers:=[] } v
  rw [e2]
  exact this
 have hspec:=it rl σ _ L _ T hY s0 hp0 (fun b=>C.X b∨b∈keys [mkE rd])
 have hperm:(L s0++[mkE rd]).Sublist (((st s0).l++[some (rl,rc)])++[mkE rd]):=List.Sublist.refl _
 have hw3:WSat C.X C.M C.w0 (L s0++[mkE rd]) I w2:=by
  exact (hw2.sub ((hl0.cons_cons _).cons_cons _)).perm (perm3 _ _ _)
 have hh:=hw3.hand (J:=fun w=>(st s0).I w∧I' w) (fun w h=>⟨hI0 w h,hI' w h⟩)
 refine ⟨rl,[mkD rd],w2,⟨.fn (Fn.func f) cs.toArray,(fs++[Value.func (Fn.yield rl) #[] #[]]).toArray⟩,w2,f,(fs++[Value.func (Fn.yield rl) #[] #[]]++cs).toArray,w2,?_,?_,fun _ _=>trivial,?_,fun h=>by simp [wf] at h,?_⟩
 ·have:(wf C.ro).round=none:=hro
  rw [this]; exact run_enterLoop_outer fn a.tmps pl.toArray as bd
 ·have hy:a.eval (.const (.func (.yield rl) #[] #[]))=.func (.yield rl) #[] #[]:=rfl
  simp [resolve,rangeCall,ha.ev hg,Deferred.ofValue,hy]
 ·simp [invoke,Fa hfn]
 ·refine (Kr (hspec w2 hh)).mono ?_
  rintro e w' ⟨s',hp,rfl,hw'⟩
  have hb:=hw3.back hw'
  have hrec:w'.heap[rl]? = some (.loop { state:=.ready,pending:=none,fn:=fn,tmps:=a.tmps,params:=pl.toArray,assign:=as,body:=bd,defers:=rd }):=hb.own rl rc (List.mem_append_left _ (List.mem_append_right _ (.head _)))
  refine ⟨_,_,run_endLoop hrec (by simp),?_⟩
  refine k s' rd hp.1 hp.2 _ _ ⟨ha.size,by rw [← ha.dfr]; rfl,ha.get⟩ ?_
  have hu:Upd (L s'++[mkE rd]) (some (rl,rc)) (some (rl,.loop { state:=.exhausted,pending:=none,fn:=fn,tmps:=a.tmps,params:=pl.toArray,assign:=as,body:=bd,defers:=rd })) ((st s').l++[some (rl,.loop { state:=.exhausted,pending:=none,fn:=fn,tmps:=a.tmps,params:=pl.toArray,assign:=as,body:=bd,defers:=rd })]++[mkE rd]):=by
   simp only [L,List.append_assoc]
   exact upd_append _ .head
  have h5:=Ho hb hu
  exact (h5.perm (l':=some (rl,.loop { state:=.exhausted,pending:=none,fn:=fn,tmps:=a.tmps,params:=pl.toArray,assign:=as,body:=bd,defers:=rd })::mkE rd::(st s').l) ((perm3 _ _ _).symm)).sub (.cons _ (.refl _))
def marks (ds:List Nat):List Deferred:=ds.map mkD
theorem leaves_marks {P:Program} {fn:Func} {tm:Array Value} {R:Ending→World→Prop} {X M w0}:∀ (ds:List Nat) (l:List A9) (I:World→Prop) (w:World),WSat X M w0 (ds.map mkE++l) I w →
  (∀ w',WSat X M w0 l I w'→∃ v,(results fn tm).run P w'=.ok v w'∧R (.returned v) w')→LeavesInM (wf none) 0 P fn tm R (marks ds) .returning w
 | [],l,I,w,hw,k=>k w hw
 | r::ds,l,I,w,hw,k=>by
  exact ⟨by simp,.inl ⟨r,_,rfl,run_takeDeferred (hw.own r _ (.head _)),(leaves_marks ds l I _ ((Ho hw .head).sub (.cons _ (.refl _))) k)⟩⟩
theorem retM {fn:Func} {X:Nat→Prop} {lin:List A9} {w0:World} {α:Type} {out:α→Out} {rs:List ResultVar} {vs:List Value} {N:Nat} {P:Program} {e:Exit} {ds:List Nat} {l':List A9} (x:α)
  (hds:δ=marks ds) (hpl:l.Perm (ds.map mkE++l')) (hr:fn.results=rs.toArray) (hv:Ress (ctx P N X lin w0) ρ l' rs vs) (he:resV vs=(out x).v) (hp:(out x).p) (hl:(out x).l.Sublist l') (hI:∀ w,I w→(out x).J w) (hn:e=.ret∨e=.normal) :
  KJ (ctx P N X lin w0) (bodyPostM (wf none) 0 P fn (Post X lin w0 out) e) δ ρ l I:=by
 intro a w ha hw
 have key:LeavesInM (wf none) 0 P fn a.tmps (Post X lin w0 out) a.defers .returning w:=by
  rw [ha.dfr,hds]
  refine leaves_marks ds l' I w (hw.perm hpl.symm) ?_
  intro w' hw'
  have ha':Sim N [] ρ { tmps:=a.tmps,defers:=[] }:=⟨ha.size,rfl,ha.get⟩
  exact ⟨resV vs,run_results (C:=ctx P N X lin w0) (a:={ tmps:=a.tmps,defers:=[] }) hr hv ha' hw',x,hp,by rw [he],(hw'.sub hl).imp hI⟩
 rcases hn with rfl | rfl <;> exact key
def Bc (r:Nat) (segs:List Seg) (te:TypeId) (w:World):Prop:=w.heap[r]? = some (.cells (flat segs).toArray te (0,0))
theorem Bc.at {r off:Nat} {segs:List Seg} {te:TypeId} {w:World} {cs:List Value} (h:Bc r segs te w) (hc:∀ j v,cs[j]? = some v→(flat segs)[off+j]? = some v):At w (some ⟨r,off,none⟩) cs :=
 ⟨_,rfl,fun j v hv=>by rw [Fk]; exact E0 h (hc j v hv)⟩
theorem Bc.at1 {r off:Nat} {segs:List Seg} {te:TypeId} {w:World} {v:Value} (h:Bc r segs te w) (hc:Hg segs off=some v):At w (some ⟨r,off,none⟩) [v] :=
 h.at fun j u hu=>by
  cases j with
  | zero=>simp at hu; subst hu; exact cellAt_get hc
  | succ j=>simp at hu
theorem Al {r:Nat} {segs:List Seg} {te:TypeId} {l':List A9} (hl:l.Perm (bx r segs te::l')) (k:KJ C K δ ρ l' (fun w=>(Bc r segs te w∧True)∧I w)):KJ C K δ ρ l I :=
 kj_pub hl (Ae (fun w h=>⟨⟨h.1,trivial⟩,h.2⟩) k)
theorem Am {α:Type}:∀ (i:Nat) (l:List α) (e:α),l[i]? = some e→l.Perm (e::l.eraseIdx i)
 | _,[],_,h=>by simp at h
 | 0,x::l,e,h=>by simp at h; subst h; exact .refl _
 | i+1,x::l,e,h=>((Am i l e (by simpa using h)).cons x).trans (.swap _ _ _)
theorem mkF {d:Nat} {f:Fn} {xs ys:List Operand} {vs us:List Value} {tt:TypeId} (hd:Nat.blt d C.N=true) (hx:Args ρ xs vs) (hy:Args ρ ys us) (kk:KJ C K δ ((d,.func f vs.toArray us.toArray)::ρ) l I) :
  KJ C (Ax C ops ⟨some d,.makeFunc f xs.toArray ys.toArray,tt,p,af,none⟩ K Q) δ ρ l I:=by
 have key:∀ {xs:List Operand} {vs:List Value},Args ρ xs vs→xs.map (Bw ρ)=vs.map some:=by
  intro xs vs h
  induction h with
  | nil=>rfl
  | cons h _ ih=>simp only [List.map_cons,h,ih]
 exact mkf hd (by simpa using key hx) (by simpa using key hy) kk
theorem kj_J {J:World→Prop} (k:KJ C K δ ρ l (fun w=>(J w∧True)∧I w)):KJ C K δ ρ l (fun w=>J w∧I w):=Ae (fun _ h=>⟨⟨h.1,trivial⟩,h.2⟩) k
theorem Cf {r off n b i:Nat} {x y:Operand} {tt te:TypeId} {segs segs':List Seg} {s:Seg} {l':List A9} (hx:Bw ρ x=some (Bg r off)) (hy:Bw ρ y=some (.agg s.cs.toArray)) (ht:Ty C.P tt true n b)
  (hn:s.n=n) (hu:Upd l (bx r segs te) (bx r segs' te) l') (hs:SUpd segs i s segs') (ho:Hi segs i=off) (k:KJ C K δ ρ l' I) :
  KJ C (Ax C ops ⟨none,.store tt x y,t,p,af,none⟩ K Q) δ ρ l I:=stA hx hy ht hn hs ho hu k
theorem Cr {r off b i:Nat} {x y:Operand} {tt te:TypeId} {v:Value} {segs segs':List Seg} {l':List A9} (hx:Bw ρ x=some (Bg r off)) (hy:Bw ρ y=some v) (ht:Ty C.P tt false 1 b)
  (h1:v.oneCell'=true) (hu:Upd l (bx r segs te) (bx r segs' te) l') (hs:SUpd segs i (S1 v h1) segs') (ho:Hi segs i=off) (k:KJ C K δ ρ l' I) :
  KJ C (Ax C ops ⟨none,.store tt x y,t,p,af,none⟩ K Q) δ ρ l I:=st1 hx hy ht h1 hs ho hu k
end Go.Chx
namespace Go.Chx
open Go
variable {C:Ctx} {δ:List Deferred} {ρ:Da} {l:List A9} {I:World→Prop} {K:Act→World→Prop} {Q:Exit→Act→World→Prop} {ops:Array Oper}
variable {t:TypeId} {p:String} {af:Array Edge}
def Bnd (ρ:Da) (x:Option Operand) (y dflt r:Nat):Prop :=
 match x with
 | none=>r=dflt
 | some o=>∃ k,Bw ρ o=some (.int k (r:Int))∧r≤y
theorem run_bounds {isS:Bool} {N:Nat} {lo hi mx:Option Operand} {len cap l' h m:Nat} {a:Act} {P:Program} (ha:Sim N δ ρ a) (w:World)
  (hm:Bnd ρ mx cap cap m) (hh:Bnd ρ hi m len h) (hmh:mx=none∨hi≠none) (hl:Bnd ρ lo h 0 l') :
  (Instr.sliceBounds isS len cap (lo.map a.eval) (hi.map a.eval) (mx.map a.eval)).run P w=.ok (l',h,m) w:=by
 have hb:∀ {o:Operand} {k:IntKind} {r y:Nat} (code:BoundsCode),Bw ρ o=some (.int k (r:Int))→r≤y→(Instr.sliceBound (a.eval o) y code).run P w=.ok r w:=by
  intro o k r y code ho hr
  rw [ha.ev ho,run_sliceBound w k (r:Int) y code (by omega) (by omega)]
  simp
 cases mx with
 | none =>
  simp only [Bnd] at hm
  subst hm
  cases hi with
  | none =>
   simp only [Bnd] at hh
   subst hh
   cases lo with
   | none=>simp only [Bnd] at hl; subst hl; simp [Instr.sliceBounds]
   | some o=>obtain ⟨k,h1,h2⟩:=hl; simp [Instr.sliceBounds,hb _ h1 h2]
  | some q =>
   obtain ⟨k,h1,h2⟩:=hh
   cases lo with
   | none=>simp only [Bnd] at hl; subst hl; simp [Instr.sliceBounds,hb _ h1 h2]
   | some o=>obtain ⟨k',h3,h4⟩:=hl; simp [Instr.sliceBounds,hb _ h1 h2,hb _ h3 h4]
 | some mo =>
  obtain ⟨km,hm1,hm2⟩:=hm
  cases hi with
  | none=>rcases hmh with h | h <;> simp at h
  | some q =>
   obtain ⟨k,h1,h2⟩:=hh
   cases lo with
   | none=>simp only [Bnd] at hl; subst hl; simp [Instr.sliceBounds,hb _ hm1 hm2,hb _ h1 h2]
   | some o=>obtain ⟨k',h3,h4⟩:=hl; simp [Instr.sliceBounds,hb _ hm1 hm2,hb _ h1 h2,hb _ h3 h4]
theorem slc {d n b len cap l' h m:Nat} {a:Option Addr} {x:Operand} {lo hi mx:Option Operand} {s te:TypeId} {agg:Bool} (hd:Nat.blt d C.N=true) (hx:Bw ρ x=some (.slice a len cap)) (hu:C.P.underlying s=some (.slice te)) (ht:Ty C.P te agg n b)
  (hm:Bnd ρ mx cap cap m) (hh:Bnd ρ hi m len h) (hmh:mx=none∨hi≠none) (hl:Bnd ρ lo h 0 l')
  (k:KJ C K δ ((d,.slice (if m=l' then a else a.map (·.add (l'*n))) (h-l') (m-l'))::ρ) l I) :
  KJ C (Ax C ops ⟨some d,.slice s x lo hi mx,t,p,af,none⟩ K Q) δ ρ l I :=
 Bm rfl rfl (by simp) hd (fun a' w ha hw=>by
  have:=run_bounds (isS:=true) (P:=C.P) ha w hm hh hmh hl
  simp [execOp,Instr.sliceAt,Instr.sureAddr,Instr.slice,ha.ev hx,run_underlying hu,this,ht.size]) k
theorem slp {d n b N' l' h m:Nat} {a:Addr} {x:Operand} {lo hi mx:Option Operand} {s te:TypeId} {agg:Bool} (hd:Nat.blt d C.N=true) (hx:Bw ρ x=some (.pointer (some a))) (hu:C.P.underlying s=some (.array N' te)) (ht:Ty C.P te agg n b)
  (hm:Bnd ρ mx N' N' m) (hh:Bnd ρ hi m N' h) (hmh:mx=none∨hi≠none) (hl:Bnd ρ lo h 0 l')
  (k:KJ C K δ ((d,.slice (some (if m=l' then a else a.add (l'*n))) (h-l') (m-l'))::ρ) l I) :
  KJ C (Ax C ops ⟨some d,.slice s x lo hi mx,t,p,af,none⟩ K Q) δ ρ l I :=
 Bm rfl rfl (by simp) hd (fun a' w ha hw=>by
  have:=run_bounds (isS:=false) (P:=C.P) ha w hm hh hmh hl
  simp [execOp,Instr.sliceAt,Instr.sureAddr,ha.ev hx,run_underlying hu,this,ht.size]) k
theorem ixv1 {d n b N':Nat} {cs:List Value} {v:Value} {x y:Operand} {s te:TypeId} {j:IntKind} {i:Int} (hd:Nat.blt d C.N=true) (hx:Bw ρ x=some (.agg cs.toArray)) (hy:Bw ρ y=some (.int j i)) (hu:C.P.underlying s=some (.array N' te)) (ht:Ty C.P te false n b) (hn:n=1) (hi:0≤i∧i < N') (hv:cs[i.toNat]? = some v)
  (k:KJ C K δ ((d,v)::ρ) l I):KJ C (Ax C ops ⟨some d,.index s x y,t,p,af,none⟩ K Q) δ ρ l I :=
 Bm rfl rfl (by simp) hd (fun a' w ha hw=>by
  subst hn
  simp [execOp,Instr.index,ha.ev hx,ha.ev hy,asIntOf,run_underlying hu,hi,ht.size,part,ht.isAgg,hv]) k
structure Src (P:Program) (sz:Nat) (x:Value) (m:Nat) (news:List Value) (w:World):Prop where
 len:∀ w',(Builtin.lenOf x).run P w'=.ok m w'
 cells:∀ w',w'.heap=w.heap→(Builtin.firstCells sz m x).run P w'=.ok news.toArray w'
 nl:news.length=m*sz
 one:∀ u∈news,u.oneCell'=true
theorem Src.slice {P:Program} {sz m c:Nat} {oa:Option Addr} {news:List Value} {w:World} (h:At w oa news) (hl:news.length=m*sz) (h1:news.all (·.oneCell')=true):Src P sz (.slice oa m c) m news w:=by
 obtain ⟨a,rfl,hc⟩:=h
 refine ⟨fun w'=>rfl,fun w' hw=>?_,hl,List.all_eq_true.1 h1⟩
 exact run_firstCells_some w' sz m a m c news hl (fun j v hv=>by
  have:=hc j v hv
  simpa [World.cell?,hw] using this)
theorem Src.nil {P:Program} {sz:Nat} {oa:Option Addr} {c:Nat} {w:World}:Src P sz (.slice oa 0 c) 0 [] w:=by
 refine ⟨fun w'=>rfl,fun w' _=>?_,by simp,by simp⟩
 cases oa with
 | none=>exact run_firstCells_none w' sz 0 0 c
 | some a=>exact run_firstCells_some w' sz 0 a 0 c [] (by simp) (by simp)
theorem Src.str {P:Program} {s:ByteArray} {w:World}:Src P 1 (.string s) s.size (An s.data.toList) w:=by
 refine ⟨fun w'=>rfl,fun w' _=>?_,by simp [Br],List.all_eq_true.1 (Co _)⟩
 simp only [Builtin.firstCells,Sem.run_pure]
 congr 1
 have hx:(s.extract 0 s.size)=s:=by
  apply ByteArray.ext; simp
 rw [hx]
 apply Array.toList_inj.1
 simp [An]
inductive Own (e:TypeId) (sz:Nat):Value→Nat→List Value→A9→Prop
 | nil:Own e sz (.slice none 0 0) 0 [] none
 | row {g n cap:Nat} {cur xs:List Value} (hc:n≤cap) (hm:cap≤maxLen) (hl:cur.length=cap*sz) (hx:cur.take (n*sz)=xs):Own e sz (.slice (some ⟨g,0,none⟩) n cap) n xs (some (g,.cells cur.toArray e (0,0)))
theorem Own.len {e:TypeId} {sz n:Nat} {v:Value} {xs:List Value} {en:A9} (h:Own e sz v n xs en):xs.length=n*sz:=by
 cases h with
 | nil=>simp
 | row hc hm hl hx=>rw [← hx,List.length_take,hl]; exact Nat.min_eq_left (Nat.mul_le_mul_right _ hc)
theorem Own.shape {e:TypeId} {sz n:Nat} {v:Value} {xs:List Value} {en:A9} (h:Own e sz v n xs en):∃ a cap,v=.slice a n cap:=by
 cases h with
 | nil=>exact ⟨none,0,rfl⟩
 | row=>exact ⟨_,_,rfl⟩
structure ElTy (P:Program) (st e:TypeId) (sz bytes:Nat):Prop where
 und:P.underlying st=some (.slice e)
 info:∃ (i:TypeInfo) (z:Value),P.info? e=some i∧i.zero=some z∧i.size=sz∧i.bytes=bytes∧z.cells.size=sz∧z.cells.all (·.oneCell')=true
 pos:0 < sz
def elB (P:Program) (st:TypeId):Option (TypeId × Nat × Nat) :=
 match P.underlying st with
 | some (.slice e) =>
  match P.info? e with
  | some i =>
   match i.zero with
   | some z=>if z.cells.size=i.size∧0 < i.size∧z.cells.all (·.oneCell')=true then some (e,i.size,i.bytes) else none
   | none=>none
  | none=>none
 | _=>none
theorem el_of {P:Program} {st e:TypeId} {sz bytes:Nat} (h:elB P st=some (e,sz,bytes)):ElTy P st e sz bytes:=by
 unfold elB at h
 split at h
 ·rename_i e' hu
  split at h
  ·rename_i i hi
   split at h
   ·rename_i z hz
    split at h
    ·rename_i hc
     simp only [Option.some.injEq,Prod.mk.injEq] at h
     obtain ⟨rfl,rfl,rfl⟩:=h
     exact ⟨hu,⟨i,z,hi,hz,rfl,rfl,hc.1,hc.2.2⟩,hc.2.1⟩
    ·cases h
   ·cases h
  ·cases h
 ·cases h
theorem zeroCells_len (z:Array Value) (n:Nat):(Builtin.zeroCells z n).toList.length=n*z.size:=by simp [Builtin.zeroCells]
def srcTy (P:Program) (u:TypeId):Bool :=
 match P.underlying u with
 | some (.slice _)=>true
 | some .string=>true
 | _=>false
theorem run_app_fits {P:Program} {w:World} {st u e ty:TypeId} {inf:TypeInfo} {x:Value} {base:Option Addr} {n m cap:Nat} {new:Array Value} (ht:P.underlying st=some (.slice e)) (hu:srcTy P u=true) (hi:P.info? e=some inf)
  (hl:(Builtin.lenOf x).run P w=.ok m w) (hc:(Builtin.firstCells inf.size m x).run P w=.ok new w) (hfit:n+m≤cap) :
  (Builtin.append_ #[st,u] ty #[.slice base n cap,x]).run P w=(match base with | some a=>(do storeCells (a.add (n*inf.size)) new.toList; pure (Value.slice base (n+m) cap)) | none=>pure (Value.slice base (n+m) cap)).run P w:=by
 unfold srcTy at hu
 split at hu
 ·rename_i hud
  simp only [Builtin.append_,sizeOf,typeInfo]
  cases base <;> simp [run_underlying ht,run_underlying hud,hi,hl,hfit,hc]
 ·rename_i hud
  simp only [Builtin.append_,sizeOf,typeInfo]
  cases base <;> simp [run_underlying ht,run_underlying hud,hi,hl,hfit,hc]
 ·cases hu
theorem run_app_grows {P:Program} {w:World} {st u e ty:TypeId} {inf:TypeInfo} {z:Value} {x:Value} {base:Option Addr} {n m cap:Nat} {old new:Array Value} (ht:P.underlying st=some (.slice e)) (hu:srcTy P u=true) (hi:P.info? e=some inf) (hz:inf.zero=some z)
  (hl:(Builtin.lenOf x).run P w=.ok m w) (hc:(Builtin.firstCells inf.size m x).run P w.drew=.ok new w.drew) (ho:(Builtin.firstCells inf.size n (.slice base n cap)).run P w.drew=.ok old w.drew) (hfit : ¬ n+m≤cap)
  (h63:((n+m:Nat):Int)≤9223372036854775807) (h48:Builtin.nextslicecap (n+m) cap*inf.bytes≤281474976710656) :
  (Builtin.append_ #[st,u] ty #[.slice base n cap,x]).run P w=.ok (.slice (some ⟨w.heap.size,0,none⟩) (n+m) (grownCap w (n+m) cap e))
    (w.drew.alloc (.cells (old++new++Builtin.zeroCells z.cells (grownCap w (n+m) cap e-(n+m))) e)):=by
 have h63' : ¬ (9223372036854775807 < ((n:Int)+(m:Int))):=by omega
 have h48' : ¬ (281474976710656 < Builtin.nextslicecap (n+m) cap*inf.bytes):=by omega
 unfold srcTy at hu
 split at hu
 ·rename_i hud
  simp only [Builtin.append_,sizeOf,typeInfo,zeroValue]
  simp [run_underlying ht,run_underlying hud,hi,hz,hl,hfit,hc,ho,h63',h48',Question.forced,newRow,grownCap]
 ·rename_i hud
  simp only [Builtin.append_,sizeOf,typeInfo,zeroValue]
  simp [run_underlying ht,run_underlying hud,hi,hz,hl,hfit,hc,ho,h63',h48',Question.forced,newRow,grownCap]
 ·cases hu
theorem run_app {P:Program} {X M:Nat→Prop} {w0 w:World} {st u e ty:TypeId} {sz bytes n m i:Nat} {v x:Value} {xs news:List Value} {en:A9} (hT:ElTy P st e sz bytes) (hu:srcTy P u=true)
  (hw:WSat X M w0 l I w) (ho:Own e sz v n xs en) (hen:l[i]? = some en) (hs:Src P sz x m news w) (hb:(n+m)*bytes≤140737488355328) (h63:n+m≤maxLen) :
  ∃ v' en' w',(Builtin.append_ #[st,u] ty #[v,x]).run P w=.ok v' w'∧Own e sz v' (n+m) (xs++news) en'∧WSat X M w0 (l.set i en') I w':=by
 obtain ⟨inf,z,hi,hz,hsz,hby,hzs,hz1⟩:=hT.info
 subst hsz
 subst hby
 have hset:∀ en',(l.set i en').Perm (en'::l.eraseIdx i):=fun en'=>by
  have hlt:i < l.length:=(List.getElem?_eq_some_iff.1 hen).1
  have h1:=Am i (l.set i en') en' (by rw [List.getElem?_set_self hlt])
  rwa [List.eraseIdx_set_eq] at h1
 have hperm:=Am i l en hen
 have hw1:=hw.perm hperm.symm
 have hsmall:n+m≤9223372036854775807:=by simp only [maxLen] at h63; omega
 have push:∀ (old:Nat),old < n+m →
   Own e inf.size (.slice (some ⟨w.heap.size,0,none⟩) (n+m) (grownCap w (n+m) old e)) (n+m) (xs++news) (some (w.heap.size,.cells (xs.toArray++news.toArray++Builtin.zeroCells z.cells (grownCap w (n+m) old e-(n+m))).toList.toArray e (0,0))) ∧
   WSat X M w0 (l.set i (some (w.heap.size,.cells (xs.toArray++news.toArray++Builtin.zeroCells z.cells (grownCap w (n+m) old e-(n+m))).toList.toArray e (0,0)))) I
    (w.drew.alloc (.cells (xs.toArray++news.toArray++Builtin.zeroCells z.cells (grownCap w (n+m) old e-(n+m))) e)):=by
  intro old hold
  have hge:=grownCap_ge w (n+m) old e
  have hcm:grownCap w (n+m) old e≤maxLen:=grownCap_le_maxLen w (n+m) old e h63
  refine ⟨.row hge hcm ?_ ?_,?_⟩
  ·simp only [Array.toList_append,List.length_append,zeroCells_len,hzs,ho.len,hs.nl]
   rw [← Nat.add_mul,← Nat.add_mul]
   congr 1
   omega
  ·simp only [Array.toList_append]
   rw [show (n+m)*inf.size=(xs++news).length from by rw [List.length_append,ho.len,hs.nl,Nat.add_mul]]
   exact List.take_left
  ·exact WSat.perm (WSat.sub (l:=some (w.heap.size,_)::en::l.eraseIdx i) (hw1.push (w':=w.drew.alloc _) (by rw [Array.toArray_toList]; rfl) rfl rfl rfl) ((List.Sublist.refl _).cons _ |>.cons_cons _)) (hset _)
 cases ho with
 | nil =>
  by_cases hm0:m=0
  ·subst hm0
   have hn:news=[]:=List.eq_nil_of_length_eq_zero (by simpa using hs.nl)
   subst hn
   refine ⟨.slice none 0 0,none,w,?_,.nil,hw1.perm (hset _)⟩
   rw [run_app_fits hT.und hu hi (hs.len w) (hs.cells w rfl) (Nat.le_refl _)]
   rfl
  ·have hp:=push 0 (by omega)
   exact ⟨_,_,_,(run_app_grows hT.und hu hi hz (hs.len w) (hs.cells w.drew rfl) (run_firstCells_none _ _ _ _ _) (by omega) (by omega) (growslice_fits (by omega) hb)),hp.1,hp.2⟩
 | @row g _ cap cur _ hc hm hl hx =>
  have hg:w.heap[g]? = some (.cells cur.toArray e (0,0)):=hw1.own g _ (.head _)
  by_cases hroom:n+m≤cap
  ·have hst:=run_storeCells_at (P:=P) g (n*inf.size) e news 0 cur.toArray w hg (by
    simp only [Nat.add_zero,List.size_toArray]
    rw [hs.nl,hl,← Nat.add_mul]; exact Nat.mul_le_mul_right _ hroom) hs.one
   simp only [Nat.add_zero] at hst
   have hsz2:n*inf.size+news.length≤cur.length:=by rw [hs.nl,hl,← Nat.add_mul]; exact Nat.mul_le_mul_right _ hroom
   refine ⟨_,some (g,.cells (cur.take (n*inf.size)++news++cur.drop (n*inf.size+news.length)).toArray e (0,0)),w.setRow g (cur.take (n*inf.size)++news++cur.drop (n*inf.size+news.length)).toArray,?_,.row hroom hm ?_ ?_,?_⟩
   ·rw [run_app_fits hT.und hu hi (hs.len w) (hs.cells w rfl) hroom]
    simp only [Addr.add_lit,Nat.zero_add,Sem.run_bind,hst,Result.andThen_ok,Sem.run_pure]
   ·simp only [List.length_append,List.length_take,List.length_drop]
    omega
   ·rw [hx,show (n+m)*inf.size=(xs++news).length from by rw [List.length_append,← hx,List.length_take,hs.nl,Nat.add_mul]; omega]
    exact List.take_left
   ·exact WSat.perm ((hw1.upd (o':=.cells (cur.take (n*inf.size)++news++cur.drop (n*inf.size+news.length)).toArray e (0,0)) .head (setRow_os ..).2.2.2 (setRow_heap w g _ _ e (0,0) hg) (fun b hb=>setRow_other w g _ hb) rfl rfl rfl)) (hset _)
  ·have hp:=push cap (by omega)
   refine ⟨_,_,_,?_,hp.1,hp.2⟩
   have hold:(Builtin.firstCells inf.size n (.slice (some ⟨g,0,none⟩) n cap)).run P w.drew=.ok xs.toArray w.drew:=by
    refine run_firstCells_some w.drew inf.size n ⟨g,0,none⟩ n cap xs (by rw [← hx,List.length_take,hl]; exact Nat.min_eq_left (Nat.mul_le_mul_right _ hc)) ?_
    intro j q hq
    rw [Addr.add_lit]
    refine E0 (w:=w.drew) (cs:=cur) (t:=e) (fz:=(0,0)) hg ?_
    rw [← hx,List.getElem?_take] at hq
    split at hq
    ·simpa using hq
    ·cases hq
   exact run_app_grows hT.und hu hi hz (hs.len w) (hs.cells w.drew rfl) hold hroom (by omega) (growslice_fits (by omega) hb)
theorem Ku {d n m i sz bytes:Nat} {s x:Operand} {st u e:TypeId} {v xv:Value} {xs news:List Value} {en:A9} (hd:Nat.blt d C.N=true) (hv:Bw ρ s=some v) (hx:Bw ρ x=some xv) (hT:ElTy C.P st e sz bytes) (hu:srcTy C.P u=true)
  (ho:Own e sz v n xs en) (hen:l[i]? = some en) (hs:∀ w,(∀ r o,some (r,o)∈l→w.heap[r]? = some o)→I w→Src C.P sz xv m news w) (hb:(n+m)*bytes≤140737488355328) (h63:n+m≤maxLen)
  (k:∀ v' en',Own e sz v' (n+m) (xs++news) en'→KJ C K δ ((d,v')::ρ) (l.set i en') I) :
  KJ C (Ax C ops ⟨some d,.call ⟨.builtin .append,#[s,x],#[st,u]⟩,t,p,af,none⟩ K Q) δ ρ l I:=by
 refine Gf rfl (by simp) fun a w ha hw=>?_
 obtain ⟨v',en',w',h1,h2,h3⟩:=run_app (ty:=t) hT hu hw ho hen (hs w hw.own hw.fr.holds) hb h63
 have:(execOp a.eval ⟨some d,.call ⟨.builtin .append,#[s,x],#[st,u]⟩,t,p,af,none⟩).run C.P w=.ok (.value v') w':=by
  simp [execOp,resolve,invoke,builtin,ha.ev hv,ha.ev hx,h1]
 rw [this,Oper.uponIn_value]
 exact k v' en' h2 _ w' (ha.put hd v') h3
end Go.Chx
namespace Go.Chx
open Go
variable {C:Ctx} {δ:List Deferred} {ρ:Da} {l:List A9} {I:World→Prop} {K:Act→World→Prop} {Q:Exit→Act→World→Prop} {ops:Array Oper}
variable {t:TypeId} {p:String} {af:Array Edge}
def Sl (sz n:Nat) (cs:List Value) (v:Value) (w:World):Prop :=
 ∃ a cap,v=.slice a n cap∧n≤cap∧cs.length=n*sz∧cs.all (·.oneCell')=true∧(n=0∨At w a cs)
theorem Sl.shape {sz n:Nat} {cs:List Value} {v:Value} {w:World} (h:Sl sz n cs v w):∃ a cap,v=.slice a n cap∧n≤cap∧cs.length=n*sz:=by
 obtain ⟨a,cap,h1,h2,h3,_⟩:=h
 exact ⟨a,cap,h1,h2,h3⟩
theorem Sl.src {P:Program} {sz n:Nat} {cs:List Value} {v:Value} {w:World} (h:Sl sz n cs v w):Src P sz v n cs w:=by
 obtain ⟨a,cap,rfl,_,h1,h2,h3⟩:=h
 by_cases hn:n=0
 ·subst hn
  have:cs=[]:=List.eq_nil_of_length_eq_zero (by simpa using h1)
  subst this
  exact Src.nil
 ·exact Src.slice (h3.resolve_left hn) h1 h2
theorem At.sub {w:World} {oa:Option Addr} {cs ds:List Value} {k:Nat} (h:At w oa cs) (hd:∀ j v,ds[j]? = some v→cs[k+j]? = some v):At w (oa.map (·.add k)) ds:=by
 obtain ⟨b,rfl,hc⟩:=h
 refine ⟨_,rfl,fun j v hv=>?_⟩
 have:=hc (k+j) v (hd j v hv)
 have e:(b.add k).add j=b.add (k+j):=by
  by_cases hk:k=0
  ·subst hk; simp [Addr.add]
  ·by_cases hj:j=0
   ·subst hj; simp [Addr.add,hk]
   ·simp [Addr.add,hk,hj,Nat.add_assoc]
 rw [e]; exact this
theorem At.take {w:World} {oa:Option Addr} {cs:List Value} {m:Nat} (h:At w oa cs):At w oa (cs.take m):=by
 obtain ⟨b,rfl,hc⟩:=h
 refine ⟨_,rfl,fun j v hv=>hc j v ?_⟩
 rw [List.getElem?_take] at hv
 split at hv
 ·exact hv
 ·cases hv
theorem Sl.elem {sz n cap i:Nat} {a:Option Addr} {cs:List Value} {w:World} (h:Sl sz n cs (.slice a n cap) w) (hi:i < n):At w (a.map (·.add (i*sz))) ((cs.drop (i*sz)).take sz):=by
 obtain ⟨a',cap',e,h2,h3,h4,h5⟩:=h
 cases e
 refine At.take ((h5.resolve_left (by omega)).sub fun j v hv=>?_)
 rw [List.getElem?_drop] at hv
 exact hv
theorem Sl.elem1 {n cap i:Nat} {a:Option Addr} {cs:List Value} {w:World} {v:Value} (h:Sl 1 n cs (.slice a n cap) w) (hv:cs[i]? = some v):At w (a.map (·.add (i*1))) [v]:=by
 obtain ⟨a',cap',e,h2,h3,h4,h5⟩:=h
 cases e
 have hi:i < n:=by have:=(List.getElem?_eq_some_iff.1 hv).1; omega
 refine (h5.resolve_left (by omega)).sub fun j u hu=>?_
 cases j with
 | zero=>simp at hu; subst hu; simpa using hv
 | succ j=>simp at hu
theorem Sl.some {sz n cap:Nat} {a:Option Addr} {cs:List Value} {w:World} (h:Sl sz n cs (.slice a n cap) w) (hn:0 < n):∃ b,a=.some b:=by
 obtain ⟨a',cap',e,h2,h3,h4,h5⟩:=h
 cases e
 obtain ⟨b,hb,_⟩:=h5.resolve_left (by omega)
 exact ⟨b,hb⟩
theorem Sl.part {sz n cap l' h m:Nat} {a:Option Addr} {cs:List Value} {w:World} (hs:Sl sz n cs (.slice a n cap) w) (hl:l'≤h) (hh:h≤n) (hm:h≤m) :
  Sl sz (h-l') ((cs.drop (l'*sz)).take ((h-l')*sz)) (.slice (if m=l' then a else a.map (·.add (l'*sz))) (h-l') (m-l')) w:=by
 obtain ⟨a',cap',e,h2,h3,h4,h5⟩:=hs
 cases e
 have h6:l'*sz+(h-l')*sz=h*sz:=by rw [← Nat.add_mul]; congr 1; omega
 have h7:h*sz≤n*sz:=Nat.mul_le_mul_right _ hh
 refine ⟨_,_,rfl,by omega,by rw [List.length_take,List.length_drop]; omega,?_,?_⟩
 ·exact List.all_eq_true.2 fun x hx=>List.all_eq_true.1 h4 x (List.mem_of_mem_drop (List.mem_of_mem_take hx))
 ·by_cases e:h-l'=0
  ·exact .inl e
  ·rw [if_neg (by omega)]
   refine .inr (At.take ((h5.resolve_left (by omega)).sub fun j v hv=>?_))
   rw [List.getElem?_drop] at hv
   exact hv
theorem Bc.sl {r off n cap sz:Nat} {segs:List Seg} {te:TypeId} {w:World} {cs:List Value} (h:Bc r segs te w) (hc:∀ j v,cs[j]? = some v→(flat segs)[off+j]? = some v) (hn:cs.length=n*sz) (h1:cs.all (·.oneCell')=true) (hcap:n≤cap) :
  Sl sz n cs (.slice (some ⟨r,off,none⟩) n cap) w:=⟨_,_,rfl,hcap,hn,h1,.inr (h.at hc)⟩
theorem By {e:TypeId} {sz n i:Nat} {v:Value} {xs:List Value} {en:A9} (hen:l[i]? = some en) (ho:Own e sz v n xs en) (h1:xs.all (·.oneCell')=true) (k:KJ C K δ ρ (l.eraseIdx i) (fun w=>(Sl sz n xs v w∧True)∧I w)):KJ C K δ ρ l I:=by
 have hp:=Am i l en hen
 have hlen:=ho.len
 cases ho with
 | nil =>
  exact kj_sub (List.eraseIdx_sublist _ _) (Ae (fun w h=>⟨⟨(⟨none,0,rfl,Nat.le_refl _,by simp,h1,.inl rfl⟩),trivial⟩,h⟩) k)
 | row hc hm hl hx =>
  refine kj_pub hp (Ae (fun w h=>⟨⟨(⟨_,_,rfl,hc,hlen,h1,.inr ⟨_,rfl,fun j u hu=>?_⟩⟩),trivial⟩,h.2⟩) k)
  rw [Addr.add_lit]
  refine E0 h.1 ?_
  rw [← hx,List.getElem?_take] at hu
  split at hu
  ·simpa using hu
  ·cases hu
theorem set_eq {α:Type} (xs:List α) (i:Nat) (v:α) (h:i < xs.length):xs.take i++[v]++xs.drop (i+1)=xs.set i v:=by
 rw [List.set_eq_take_append_cons_drop,if_pos h]; simp
theorem stX {r off b:Nat} {x y:Operand} {tt te:TypeId} {v:Value} {segs:List Seg} {l':List A9} (segs':List Seg) (hx:Bw ρ x=some (Bg r off)) (hy:Bw ρ y=some v) (ht:Ty C.P tt false 1 b)
  (h1:v.oneCell'=true) (hu:Upd l (bx r segs te) (bx r segs' te) l') (hlt:off < (flat segs).length) (he:flat segs'=(flat segs).set off v) (k:KJ C K δ ρ l' I) :
  KJ C (Ax C ops ⟨none,.store tt x y,t,p,af,none⟩ K Q) δ ρ l I :=
 st_skipW rfl rfl (by simp) (fun a w ha hw=>by
  have:=G7 ht (v:=v) (cs:=[v]) (by rw [I8 h1]) rfl (by simpa using h1) (Fo hw hu.mem) (off:=off) (by omega)
  rw [set_eq _ _ _ hlt,← he] at this
  exact ⟨w.setRow r (flat segs').toArray,by simp [execOp,Instr.storeAt,Instr.sureAddr,ha.ev hx,ha.ev hy,this],Em hw hu⟩) k
theorem Ib (s:Seg):flat [s]=s.cs:=by simp [flat]
theorem Ey {k:IntKind} {n i:Nat} {xs:List Int} {m:Int} (h:xs.length=n) (h':(xs.set i m).length=n):flat [Gi k n (xs.set i m) h']=(flat [Gi k n xs h]).set i (.int k m):=by
 simp [Ib,Gi,Av,List.map_set]
theorem En {k:IntKind} {n:Nat} {xs:List Int} (h:xs.length=n):(flat [Gi k n xs h]).length=n:=by rw [He]; simp [Ke,Gi]
theorem B6 {k:IntKind} {n i:Nat} {xs:List Int} {m:Int} (h:xs.length=n) (hm:xs[i]? = some m):Hg [Gi k n xs h] i=some (.int k m):=by
 have hi:i < n:=by have:=(List.getElem?_eq_some_iff.1 hm).1; omega
 simp only [Hg,Gi]
 have:Nat.ble n i=false:=by
  cases e:Nat.ble n i with
  | false=>rfl
  | true=>have:=Nat.le_of_ble_eq_true e; omega
 rw [this]
 simp [Av,hm]
theorem sby_set {n i:Nat} {xs:List UInt8} {m:UInt8} (h:xs.length=n) (h':(xs.set i m).length=n):flat [It n (xs.set i m) h']=(flat [It n xs h]).set i (.int .u8 (m.toNat:Int)):=by
 simp [Ib,It,An,List.map_set]
theorem sby_len {n:Nat} {xs:List UInt8} (h:xs.length=n):(flat [It n xs h]).length=n:=by rw [He]; simp [Ke,It]
structure SrcN (P:Program) (sz:Nat) (x:Value) (m n:Nat) (news:List Value) (w:World):Prop where
 len:(Builtin.lenOf x).run P w=.ok m w
 cells:(Builtin.firstCells sz n x).run P w=.ok news.toArray w
 nl:news.length=n*sz
 one:∀ u∈news,u.oneCell'=true
theorem SrcN.at {P:Program} {sz m n c:Nat} {oa:Option Addr} {news:List Value} {w:World} (h:At w oa news) (hl:news.length=n*sz) (h1:news.all (·.oneCell')=true):SrcN P sz (.slice oa m c) m n news w:=by
 obtain ⟨a,rfl,hc⟩:=h
 exact ⟨rfl,run_firstCells_some w sz n a m c news hl hc,hl,List.all_eq_true.1 h1⟩
theorem Src.n {P:Program} {sz m:Nat} {x:Value} {news:List Value} {w:World} (h:Src P sz x m news w):SrcN P sz x m m news w:=⟨h.len w,h.cells w rfl,h.nl,h.one⟩
theorem cpy {d r o dl dc m n sz b:Nat} {x y:Operand} {s u e te:TypeId} {agg:Bool} {xv:Value} {news:List Value} {segs:List Seg} {l':List A9} (segs':List Seg) (hd:Nat.blt d C.N=true) (hx:Bw ρ x=some (.slice (some ⟨r,o,none⟩) dl dc)) (hy:Bw ρ y=some xv)
  (hu:C.P.underlying s=some (.slice e)) (ht:Ty C.P e agg sz b) (hU:Upd l (bx r segs te) (bx r segs' te) l') (hn:n=Nat.min m dl) (hs:∀ w,(∀ r o,some (r,o)∈l→w.heap[r]? = some o)→I w→SrcN C.P sz xv m n news w)
  (hfit:o+n*sz≤(flat segs).length) (he:flat segs'=(flat segs).take o++news++(flat segs).drop (o+n*sz))
  (k:KJ C K δ ((d,.int .i64 n)::ρ) l' I):KJ C (Ax C ops ⟨some d,.call ⟨.builtin .copy,#[x,y],#[s,u]⟩,t,p,af,none⟩ K Q) δ ρ l I:=by
 refine Gf rfl (by simp) fun a w ha hw=>?_
 obtain ⟨q1,q2,q3,q4⟩:=hs w hw.own hw.fr.holds
 have hg:=Fo hw hU.mem
 have hst:=run_storeCells_at (P:=C.P) r o te news 0 (flat segs).toArray w hg (by simpa [q3] using hfit) q4
 simp only [Nat.add_zero,q3,← he] at hst
 have hrun:(execOp a.eval ⟨some d,.call ⟨.builtin .copy,#[x,y],#[s,u]⟩,t,p,af,none⟩).run C.P w=.ok (.value (.int .i64 n)) (w.setRow r (flat segs').toArray):=by
  subst hn
  simp [execOp,resolve,invoke,builtin,ha.ev hx,ha.ev hy,Builtin.copy_,run_underlying hu,q1,q2,ht.size,hst,goInt]
 rw [hrun,Oper.uponIn_value]
 exact k _ _ (ha.put hd _) (Em hw hU)
theorem ixR {d n n' b r o len cap:Nat} {te:TypeId} {x y:Operand} {s:TypeId} {agg:Bool} {j:IntKind} {i:Int} (hd:Nat.blt d C.N=true) (hx:Bw ρ x=some (.slice (some ⟨r,o,none⟩) len cap)) (hy:Bw ρ y=some (.int j i)) (hu:C.P.underlying s=some (.slice te)) (ht:Ty C.P te agg n b) (hi:0≤i∧i < len) (ho:o+i.toNat*n=n')
  (k:KJ C K δ ((d,Bg r n')::ρ) l I):KJ C (Ax C ops ⟨some d,.indexAddr s x y,t,p,af,none⟩ K Q) δ ρ l I:=by
 subst ho
 refine ixs hd hx hy hu ht hi ?_
 rw [Addr.add_lit]; exact k
theorem iaO {d n b len:Nat} {te:TypeId} {x y:Operand} {s:TypeId} {agg:Bool} {j:IntKind} {i:Int} {a:Addr} (hd:Nat.blt d C.N=true) (hx:Bw ρ x=some (.pointer (some a))) (hy:Bw ρ y=some (.int j i)) (hu:C.P.underlying s=some (.array len te)) (ht:Ty C.P te agg n b) (hi:0≤i∧i < len)
  (k:KJ C K δ ((d,.pointer (some (a.add (i.toNat*n))))::ρ) l I):KJ C (Ax C ops ⟨some d,.indexAddr s x y,t,p,af,none⟩ K Q) δ ρ l I :=
 Bm rfl rfl (by simp) hd (fun a' w ha hw=>by
  simp [execOp,ha.ev hx,ha.ev hy,Instr.indexAt,asIntOf,run_underlying hu,Instr.sureAddr,hi,ht.size]) k
def De (g:Nat) (cs:List Value) (w:World):Prop:=At w (some ⟨g,0,none⟩) cs
theorem De.elem {g i:Nat} {cs:List Value} {w:World} {v:Value} (h:De g cs w) (hv:cs[i]? = some v):At w (some ((⟨g,0,none⟩:Addr).add (i*1))) [v]:=by
 have:=At.sub (k:=i*1) (ds:=[v]) h (fun j u hu=>by
  cases j with
  | zero=>simp at hu; subst hu; simpa using hv
  | succ j=>simp at hu)
 simpa using this
theorem icells_get {k:IntKind} {xs:List Int} {i:Nat} {m:Int} (h:xs[i]? = some m):(Av k xs)[i]? = some (.int k m):=by simp [Av,h]
theorem Hk {C:Ctx} {d r n b:Nat} {t te:TypeId} {s:Seg} {ds:List ResultVar} {vs:List Value} (h1:lk ρ d=some (Bg r 0)) (h2:Ty C.P t true n b) (h3:bx r [s] te∈l) (h4:Ke [s]=n) (h5:Ress C ρ l ds vs):Ress C ρ l (.cell d t::ds) (.agg s.cs.toArray::vs):=by
 have e:av [s]=.agg s.cs.toArray:=by show Value.agg (flat [s]).toArray=_; rw [Ib]
 exact e ▸ Ress.cellW h1 h2 h3 h4 h5
theorem mkb {d:Nat} {x y:Operand} {st e:TypeId} {k1 k2:IntKind} {n c:Nat} (hd:Nat.blt d C.N=true) (hx:Bw ρ x=some (.int k1 (n:Int))) (hy:Bw ρ y=some (.int k2 (c:Int))) (hT:ElTy C.P st e 1 1) (hz:zeroB C.P e=some (.int .u8 0)) (hnc:n≤c) (hc:c≤281474976710656)
  (k:∀ r,KJ C K δ ((d,.slice (some ⟨r,0,none⟩) n c)::ρ) (bx r [zby c] e::l) I):KJ C (Ax C ops ⟨some d,.makeSlice st x y,t,p,af,none⟩ K Q) δ ρ l I:=by
 obtain ⟨inf,z,hi,hzz,hsz,hby,hzs,_⟩:=hT.info
 have hz':z=.int .u8 0:=by
  unfold zeroB at hz
  rw [hi] at hz
  simp [hzz] at hz
  exact hz
 subst hz'
 refine Jw (v:=fun r=>.slice (some ⟨r,0,none⟩) n c) (ob:=.cells (flat [zby c]).toArray e (0,0)) rfl rfl (by simp) hd (fun a w ha hw=>?_) k
 have h:=run_make (P:=C.P) w st e inf (.int .u8 0) hT.und hi hzz k1 k2 n c (by omega) (by omega) (by rw [hby]; omega) (by omega)
 have e1:madeCells (Value.int .u8 0).cells ((c:Int).toNat*inf.size)=(flat [zby c]).toArray:=by
  rw [Ib,hsz]
  apply Array.ext
  ·simp [madeCells,zby,It,An]
  ·intro i h1 h2
   simp [madeCells,zby,It,An,Value.cells,Nat.mod_one]
 have h':(execOp a.eval ⟨some d,.makeSlice st x y,t,p,af,none⟩).run C.P w=.ok (.value (.slice (some ⟨w.heap.size,0,none⟩) n c)) (w.alloc (.cells (flat [zby c]).toArray e)):=by
  rw [← e1]
  simp [execOp,ha.ev hx,ha.ev hy,h]
 rw [h']
 rfl
end Go.Chx
