/- Part of the proof that the law CommitsMembers holds. -/
import Derived.RecoverIn
import Derived.Test.YtegbaopejhpnkaaGreatDoorAa
import Derived.Test.YtegbaopejhpnkaaGreatDoorAg
import Derived.Test.YtegbaopejhpnkaaGreatDoorAh
import Derived.Test.YtegbaopejhpnkaaGreatDoorAi
import Derived.Test.YtegbaopejhpnkaaGreatDoorAm
namespace Go.Chx
open Go
variable {C:Ctx} {δ:List Deferred} {ρ:Da} {l:List A9} {I:World→Prop} {K:Act→World→Prop} {Q:Exit→Act→World→Prop} {ops:Array Oper}
variable {t:TypeId} {p:String} {af:Array Edge}
abbrev dfr (f:FuncId) (cs:List Value):Deferred:={ target:=.fn (.func f) cs.toArray,args:=#[] }
theorem Jf {P:Program} {f:FuncId} {fn:Func} {c:Code} {args:List Value} {lin:List A9} {I:World→Prop} {α:Type} {out:α→Out}
  (hf:P.funcs[f]? = some fn) (hb:fn.body=some c) (hn:Nat.ble args.length fn.ntmps=true)
  (h:∀ X w,KJ (ctx P fn.ntmps X lin w) (cw (ctx P fn.ntmps X lin w) c (bodyPostDIn (wf none) 0 P fn (Post X lin w out))) [] (argEnv 0 args) lin I) :
  Ay P f args lin I out:=by
 intro X w hw
 have:=callsIn_of_wp_defers (F:=wf none) (n:=0) (P:=P) (R:=Post X lin w out) hf hb trivial (h X w _ w (sim_enter args fn.ntmps hn) hw) rfl
 exact (callsIn_wide (n:=0)).1 this
theorem kj_defer {g:Operand} {f:FuncId} {cs:List Value} {tys:Array TypeId} (hC:C.ro=none) (hg:Bw ρ g=some (.func (.func f) #[] cs.toArray))
  (k:KJ C K (dfr f cs::δ) ρ l I):KJ C (Ax C ops ⟨none,.defer ⟨.value g,#[],tys⟩,t,p,af,none⟩ K Q) δ ρ l I:=by
 intro a w ha hw
 simp only [Ax,Region.wanted,if_true]
 refine ⟨fun _ _=>trivial,?_⟩
 have hs:Oper.semAt (wf C.ro).round a.eval ⟨none,.defer ⟨.value g,#[],tys⟩,t,p,af,none⟩=execOp a.eval ⟨none,.defer ⟨.value g,#[],tys⟩,t,p,af,none⟩:=by rw [hC]; rfl
 rw [hs]
 have hrun:(execOp a.eval ⟨none,.defer ⟨.value g,#[],tys⟩,t,p,af,none⟩).run C.P w=.ok (.defer (dfr f cs)) w:=by
  simp [execOp,resolve,Deferred.ofValue,ha.ev hg,dfr]
 rw [hrun,Oper.uponIn_defer]
 exact k _ w (⟨ha.size,by simp [Act.put,ha.dfr],fun t v hv=>ha.get t v hv⟩) hw
theorem retD {fn:Func} {X:Nat→Prop} {lin:List A9} {w0:World} {α:Type} {out:α→Out} {rs:List ResultVar} {vs:List Value} {N:Nat} {P:Program} {f:FuncId} {cs:List Value} (hidle:∀ w,CallsDIn (wf none) 0 P f cs.toArray .returning w fun e u' w'=>e=.returned (.tuple #[])∧u'=.returning∧w'=w) (hfb:Aq P f=true) (x:α)
  (hr:fn.results=rs.toArray) (hv:Ress (ctx P N X lin w0) ρ l rs vs) (he:resV vs=(out x).v) (hp:(out x).p) (hl:(out x).l.Sublist l) (hI:∀ w,I w→(out x).J w) :
  KJ (ctx P N X lin w0) (bodyPostDIn (wf none) 0 P fn (Post X lin w0 out) .ret) [dfr f cs] ρ l I:=by
 intro a w ha hw
 show LeavesIn (wf none) 0 P fn a.tmps (Post X lin w0 out) a.defers .returning w
 rw [ha.dfr]
 refine leavesIn_cons (f:=f) (args:=cs.toArray) (by simp) (by simp [wf]) (by simp [invoke,Fa hfb]) (fun _ _=>trivial) ((hidle w).mono ?_)
 rintro e u' w' ⟨rfl,rfl,rfl⟩
 exact ⟨resV vs,run_results (C:=ctx P N X lin w0) hr hv ha hw,x,hp,by rw [he],(hw.sub hl).imp hI⟩
end Go.Chx
namespace Go.Chx
open Go
variable {C:Ctx} {δ:List Deferred} {ρ:Da} {l:List A9} {I:World→Prop} {K:Act→World→Prop} {Q:Exit→Act→World→Prop} {ops:Array Oper}
variable {t:TypeId} {p:String} {af:Array Edge}
def YLe (P:Program) (y:Nat) {σ β:Type} (enc:β→List Value) (EW:β→List A9) (R:σ→β→Prop) (Ps:σ→Prop) (L:σ→List A9) (J:σ→World→Prop) (T:σ→β→σ→Prop):Prop :=
 ∀ s x,R s x→Ps s→Yields P y (enc x) (EW x++L s) (J s) (fun s'=>⟨Ps s'∧T s x s',.bool true,L s',J s'⟩)
def ItSpecE (P:Program) (f:FuncId) (fs cs:List Value) (W:List A9) (I':World→Prop) {β:Type} (enc:β→List Value) (EW:β→List A9) (G:List β→Prop):Prop :=
 ∀ (y:Nat) (σ:Type) (Ps:σ→Prop) (L:σ→List A9) (J:σ→World→Prop) (T:σ→β→σ→Prop) (s0:σ),Ps s0→YLe P y enc EW (fun s x=>∃ ys zs,Run T ys s0 s∧G (ys++x::zs)) Ps L J T →
  Ay P f (fs++[.func (.yield y) #[] #[]]++cs) (W++L s0) (fun w=>J s0 w∧I' w) (fun s'=>⟨Ps s'∧∃ xs,G xs∧Run T xs s0 s',.tuple #[],L s',J s'⟩)
theorem yldE {σ β:Type} {own:List A9} {L:σ→List A9} {J:σ→World→Prop} {s:σ} {x:β} {enc:β→List Value} {EW:β→List A9} {R:σ→β→Prop} {Ps:σ→Prop} {T:σ→β→σ→Prop} {d y:Nat} {g:Operand} {os:List Operand} {tys:Array TypeId}
  (hY:YLe C.P y enc EW R Ps L J T) (hx:R s x) (hs:Ps s) (hd:Nat.blt d C.N=true) (hg:Bw ρ g=some (.func (.yield y) #[] #[])) (ha:Args ρ os (enc x))
  (hl:l=EW x++(own++L s)) (hI:∀ w,I w→J s w) (k:∀ s',Ps s'→T s x s'→KJ C K δ ((d,.bool true)::ρ) (own++L s') (fun w=>J s' w∧I w)) :
  KJ C (Ax C ops ⟨some d,.call ⟨.value g,os.toArray,tys⟩,t,p,af,none⟩ K Q) δ ρ l I:=by
 subst hl
 refine st_yld (lrest:=own) rfl hd hg ha (hY s x hx hs) ?_ hI fun s' hp=>Cn List.perm_append_comm (k s' hp.1 hp.2)
 rw [List.append_assoc]
 exact (List.perm_append_comm).append_left _
theorem cj_rangeE {σ β:Type} {g:Operand} {pl:List Tmp} {as bd:Code} {f:FuncId} {fs cs:List Value} {I':World→Prop} {enc:β→List Value} {G:List β→Prop} {W:List A9} {EW:β→List A9} (hro:C.ro=none)
  (hg:Bw ρ g=some (.func (.func f) fs.toArray cs.toArray)) (hfn:Aq C.P f=true) (it:ItSpecE C.P f fs cs W I' enc EW G)
  (st:σ→Hd) (T:σ→β→σ→Prop) (s0:σ) (hp0:(st s0).p) (hl0:(W++(st s0).l).Sublist l) (hI':∀ w,I w→I' w) (hI0:∀ w,I w→(st s0).I w)
  (hps:∀ x,(enc x).length=pl.length∧(pl.all fun q=>Nat.blt q C.N)=true)
  (round:∀ (s:σ) (x:β),(st s).p→(∃ ys zs,Run T ys s0 s∧G (ys++x::zs))→∀ (rl rd:Nat) (fn:FuncId) (tm:Array Value) (X:Nat→Prop) (w:World),
   KJ (rctx C rl X (EW x++(st s).l++[some (rl,H2 .ready fn tm pl.toArray as bd rd)]) w)
    (cw (rctx C rl X (EW x++(st s).l++[some (rl,H2 .ready fn tm pl.toArray as bd rd)]) w) as (Exit.then (bgnK (rctx C rl X (EW x++(st s).l++[some (rl,H2 .ready fn tm pl.toArray as bd rd)]) w) rl bd
     (roundPost C.P rl (Post X (EW x++(st s).l++[some (rl,H2 .ready fn tm pl.toArray as bd rd)]) w (fun s'=>⟨(st s').p∧T s x s',.bool true,(st s').l++[some (rl,H2 .ready fn tm pl.toArray as bd rd)],(st s').I⟩)))) (fun _ _ _=>False)))
    [] (bindE (pl.zip (enc x)) ρ) (EW x++(st s).l++[some (rl,H2 .ready fn tm pl.toArray as bd rd)]) (st s).I)
  (k:∀ s' rd,(st s').p→(∃ xs,G xs∧Run T xs s0 s')→KJ C (Q .normal) (mkD rd::δ) ρ (mkE rd::(st s').l) (fun w=>(st s').I w∧I w)) :
  KJ C (cw C (.rangeFunc g pl.toArray as bd) Q) δ ρ l I:=by
 intro a w ha hw
 refine wpIn_rangeFunc fun fn _=>?_
 let rl:=w.heap.size+1
 let rd:=w.heap.size
 let rc:Obj:=H2 .ready fn a.tmps pl.toArray as bd rd
 let w1:=w.alloc (.deferred (some []))
 let w2:=w1.alloc rc
 have hw1:WSat C.X C.M C.w0 (mkE rd::l) I w1:=hw.push rfl rfl rfl rfl
 have hw2:WSat C.X C.M C.w0 (some (rl,rc)::mkE rd::l) I w2:=by
  have:=hw1.push (w':=w2) (o:=rc) rfl rfl rfl rfl
  have e:w1.heap.size=rl:=by simp [w1,rl,World.size_alloc]
  rw [e] at this
  exact this
 let L:σ→List A9:=fun s=>(st s).l++[some (rl,rc)]
 have hY:YLe C.P rl enc EW (fun s x=>∃ ys zs,Run T ys s0 s∧G (ys++x::zs)) (fun s=>(st s).p) L (fun s=>(st s).I) T:=by
  intro s x hx hs X v hv
  have hrec:v.heap[rl]? = some (.loop { state:=.ready,pending:=none,fn:=fn,tmps:=a.tmps,params:=pl.toArray,assign:=as,body:=bd,defers:=rd }):=hv.own rl rc (List.mem_append_right _ (List.mem_append_right _ (.head _)))
  refine ⟨_,_,_,_,run_yield hrec (by simpa using (hps x).1),(roundIn_of_wpIn trivial ?_)⟩
  have hsim:Sim C.N [] ρ { tmps:=a.tmps,defers:=[] }:=⟨ha.size,rfl,ha.get⟩
  have hb:=sim_bind (pl.zip (enc x)) ρ a.tmps hsim (by
   exact List.all_eq_true.2 fun q hq=>(List.all_eq_true.1 (hps x).2 q.1 (List.of_mem_zip hq).1))
  have hv':=hv
  rw [← List.append_assoc] at hv'
  have:=round s x hs hx rl rd fn a.tmps X v _ v hb hv'
  simp only [List.append_assoc] at this
  have e2:((pl.toArray.zip (enc x).toArray).foldl (fun tmps (q:Nat × Value)=>tmps.setIfInBounds q.1 q.2) a.tmps)=(pl.zip (enc x)).foldl (fun tmps (q:Nat × Value)=>tmps.setIfInBounds q.1 q.2) a.tmps:=by simp
  change Code.wpIn _ 0 _ _ _ { tmps:=(pl.toArray.zip (enc x).toArray).foldl (fun tmps (q:Nat × Value)=>tmps.setIfInBounds q.1 q.2) a.tmps,defers:=[] } v
  rw [e2]
  simp only [L]
  exact this
 have hspec:=it rl σ _ L _ T s0 hp0 hY (fun b=>C.X b∨b∈keys [mkE rd])
 have hw3:WSat C.X C.M C.w0 ((W++L s0)++[mkE rd]) I w2:=by
  have:=(hw2.sub ((hl0.cons_cons _).cons_cons _)).perm (perm3 _ _ _)
  simp only [List.append_assoc] at this
  simp only [L,List.append_assoc]
  exact this
 have hh:=hw3.hand (J:=fun w=>(st s0).I w∧I' w) (fun w h=>⟨hI0 w h,hI' w h⟩)
 refine ⟨rl,[mkD rd],w2,⟨.fn (Fn.func f) cs.toArray,(fs++[Value.func (Fn.yield rl) #[] #[]]).toArray⟩,w2,f,(fs++[Value.func (Fn.yield rl) #[] #[]]++cs).toArray,w2,?_,?_,fun _ _=>trivial,?_,fun h=>by simp [wf] at h,?_⟩
 ·have:(wf C.ro).round=none:=hro
  rw [this]; exact run_enterLoop_outer fn a.tmps pl.toArray as bd
 ·have hy:a.eval (.const (.func (.yield rl) #[] #[]))=.func (.yield rl) #[] #[]:=rfl
  simp [resolve,rangeCall,ha.ev hg,Deferred.ofValue,hy]
 ·simp [invoke,Fa hfn]
 ·refine (Kr (hspec w2 hh)).mono ?_
  rintro e w' ⟨s',hp,rfl,hw'⟩
  have hb:=hw3.back hw'
  have hrec:w'.heap[rl]? = some (.loop { state:=.ready,pending:=none,fn:=fn,tmps:=a.tmps,params:=pl.toArray,assign:=as,body:=bd,defers:=rd }):=hb.own rl rc (List.mem_append_left _ (List.mem_append_right _ (.head _)))
  refine ⟨_,_,run_endLoop hrec (by simp),?_⟩
  refine k s' rd hp.1 hp.2 _ _ ⟨ha.size,by rw [← ha.dfr]; rfl,ha.get⟩ ?_
  have hu:Upd (L s'++[mkE rd]) (some (rl,rc)) (some (rl,.loop { state:=.exhausted,pending:=none,fn:=fn,tmps:=a.tmps,params:=pl.toArray,assign:=as,body:=bd,defers:=rd })) ((st s').l++[some (rl,.loop { state:=.exhausted,pending:=none,fn:=fn,tmps:=a.tmps,params:=pl.toArray,assign:=as,body:=bd,defers:=rd })]++[mkE rd]):=by
   simp only [L,List.append_assoc]
   exact upd_append _ .head
  have h5:=Ho hb hu
  exact (h5.perm (l':=some (rl,.loop { state:=.exhausted,pending:=none,fn:=fn,tmps:=a.tmps,params:=pl.toArray,assign:=as,body:=bd,defers:=rd })::mkE rd::(st s').l) ((perm3 _ _ _).symm)).sub (.cons _ (.refl _))
theorem s2a {d n len cap:Nat} {arr e:TypeId} {a:Option Addr} {x:Operand} (hd:Nat.blt d C.N=true) (hx:Bw ρ x=some (.slice a len cap)) (hu:C.P.underlying arr=some (.array n e)) (hn:n≤len)
  (k:KJ C K δ ((d,.pointer a)::ρ) l I):KJ C (Ax C ops ⟨some d,.sliceToArrayPointer arr x,t,p,af,none⟩ K Q) δ ρ l I :=
 Bm rfl rfl (by simp) hd (fun a' w ha hw=>by
  simp [execOp,ha.ev hx,Instr.arrayAt,run_underlying hu,Nat.not_lt.2 hn]) k
theorem Sl.all {sz n cap:Nat} {a:Option Addr} {cs:List Value} {w:World} (h:Sl sz n cs (.slice a n cap) w) (hn:0 < n):At w a cs:=by
 obtain ⟨a',cap',e,h2,h3,h4,h5⟩:=h
 cases e
 exact h5.resolve_left (by omega)
end Go.Chx
namespace Go.Chx
open Go
variable {C:Ctx} {δ:List Deferred} {ρ:Da} {l:List A9} {I:World→Prop} {K:Act→World→Prop} {Q:Exit→Act→World→Prop} {ops:Array Oper}
variable {t:TypeId} {p:String} {af:Array Edge}
theorem cpL {d r o dl dc m n sz b:Nat} {x y:Operand} {s u e te:TypeId} {agg:Bool} {xv:Value} {news cur:List Value} {l':List A9} (cur':List Value) (hd:Nat.blt d C.N=true) (hx:Bw ρ x=some (.slice (some ⟨r,o,none⟩) dl dc)) (hy:Bw ρ y=some xv)
  (hu:C.P.underlying s=some (.slice e)) (ht:Ty C.P e agg sz b) (hU:Upd l (lsE r cur te) (lsE r cur' te) l') (hn:n=Nat.min m dl) (hs:∀ w,(∀ r o,some (r,o)∈l→w.heap[r]? = some o)→I w→SrcN C.P sz xv m n news w)
  (hfit:o+n*sz≤cur.length) (he:cur'=cur.take o++news++cur.drop (o+n*sz))
  (k:KJ C K δ ((d,.int .i64 n)::ρ) l' I):KJ C (Ax C ops ⟨some d,.call ⟨.builtin .copy,#[x,y],#[s,u]⟩,t,p,af,none⟩ K Q) δ ρ l I:=by
 refine Gf rfl (by simp) fun a w ha hw=>?_
 obtain ⟨q1,q2,q3,q4⟩:=hs w hw.own hw.fr.holds
 have hg:=Fo hw hU.mem
 have hst:=run_storeCells_at (P:=C.P) r o te news 0 cur.toArray w hg (by simpa [q3] using hfit) q4
 simp only [Nat.add_zero,q3,← he] at hst
 have hrun:(execOp a.eval ⟨some d,.call ⟨.builtin .copy,#[x,y],#[s,u]⟩,t,p,af,none⟩).run C.P w=.ok (.value (.int .i64 n)) (w.setRow r cur'.toArray):=by
  subst hn
  simp [execOp,resolve,invoke,builtin,ha.ev hx,ha.ev hy,Builtin.copy_,run_underlying hu,q1,q2,ht.size,hst,goInt]
 rw [hrun,Oper.uponIn_value]
 exact k _ _ (ha.put hd _) (Em hw hU)
end Go.Chx
namespace Go.Chx
open Go
variable {C:Ctx} {δ:List Deferred} {ρ:Da} {l:List A9} {I:World→Prop} {K:Act→World→Prop} {Q:Exit→Act→World→Prop} {ops:Array Oper}
variable {t:TypeId} {p:String} {af:Array Edge}
theorem callEL {d:Nat} {f:FuncId} {g:Operand} {fs vs cs:List Value} {os:List Operand} {tys:Array TypeId} {I':World→Prop} {α:Type} {out:α→Out} {E:List A9} {E':α→List A9}
  (hd:Nat.blt d C.N=true) (hg:Bw ρ g=some (.func (.func f) fs.toArray cs.toArray)) (ha:Args ρ os vs) (hfn:Aq C.P f=true)
  (spec:Ay C.P f (fs++vs++cs) E I' out) (ho:∀ x,(out x).l=E' x) (hI:∀ w,I w→I' w)
  (k:∀ x,(out x).p→KJ C K δ ((d,(out x).v)::ρ) (l++E' x) (fun w=>(out x).J w∧I w)):KJ C (Ax C ops ⟨some d,.call ⟨.value g,os.toArray,tys⟩,t,p,af,none⟩ K Q) δ ρ (l++E) I :=
 Hl hd hg ha hfn (lrest:=l) List.perm_append_comm spec hI (fun x hx=>Cn List.perm_append_comm (by rw [ho x]; exact k x hx))
theorem cvsbB {d:Nat} {x:Operand} {src dst e:TypeId} {s:ByteArray} (hd:Nat.blt d C.N=true) (hx:Bw ρ x=some (.string s)) (hs:C.P.underlying src=some .string) (hdt:C.P.underlying dst=some (.slice e)) (he:C.P.underlying e=some (.int .u8))
  (k:∀ y:Addr × Nat,s.data.toList.length≤y.2→KJ C K δ ((d,.slice (some y.1) s.data.toList.length y.2)::ρ) l (fun w=>(Sl 1 s.data.toList.length (An s.data.toList) (.slice (some y.1) s.data.toList.length y.2) w∧True)∧I w)) :
  KJ C (Ax C ops ⟨some d,.convert src dst x,t,p,af,none⟩ K Q) δ ρ l I:=cvsb hd hx hs hdt he (fun a c h=>k (a,c) h)
theorem min2i {d:Nat} {x y:Operand} {m n:Int} {tys:Array TypeId} (hd:Nat.blt d C.N=true) (hx:Bw ρ x=some (.int .i64 m)) (hy:Bw ρ y=some (.int .i64 n)) (kk:KJ C K δ ((d,.int .i64 (if n < m then n else m))::ρ) l I) :
  KJ C (Ax C ops ⟨some d,.call ⟨.builtin .min,#[x,y],tys⟩,t,p,af,none⟩ K Q) δ ρ l I :=
 Bm rfl rfl (by simp) hd (fun a w ha _=>by simp [execOp,resolve,invoke,builtin,Builtin.min_,Builtin.min2,ha.ev hx,ha.ev hy,Result.andThen]) kk
theorem ldC {d r off b:Nat} {x:Operand} {tt te:TypeId} {cur:List Value} {v:Value} (hd:Nat.blt d C.N=true) (hx:Bw ρ x=some (Bg r off)) (ht:Ty C.P tt false 1 b) (hm:lsE r cur te∈l) (hc:cur[off]? = some v)
  (k:KJ C K δ ((d,v)::ρ) l I):KJ C (Ax C ops ⟨some d,.load tt x,t,p,af,none⟩ K Q) δ ρ l I :=
 Bm rfl rfl (by simp) hd (fun a w ha hw=>by
  have:=Iu ht (a:=⟨r,off,none⟩) (w:=w) (E0 (hw.own _ _ hm) hc)
  simp [execOp,Instr.loadAt,Instr.sureAddr,ha.ev hx,this]) k
theorem stC {r off b:Nat} {x y:Operand} {tt te:TypeId} {v:Value} {cur:List Value} {l':List A9} (cur':List Value) (hx:Bw ρ x=some (Bg r off)) (hy:Bw ρ y=some v) (ht:Ty C.P tt false 1 b)
  (h1:v.oneCell'=true) (he:cur.set off v=cur') (hlt:off < cur.length) (hu:Upd l (lsE r cur te) (lsE r cur' te) l') (k:KJ C K δ ρ l' I) :
  KJ C (Ax C ops ⟨none,.store tt x y,t,p,af,none⟩ K Q) δ ρ l I :=
 st_skipW rfl rfl (by simp) (fun a w ha hw=>by
  have:=G7 ht (v:=v) (cs:=[v]) (by rw [I8 h1]) rfl (by simpa using h1) (Fo hw hu.mem) (off:=off) (by omega)
  rw [set_eq _ _ _ hlt,he] at this
  exact ⟨w.setRow r cur'.toArray,by simp [execOp,Instr.storeAt,Instr.sureAddr,ha.ev hx,ha.ev hy,this],Em hw hu⟩) k
theorem callLO {d:Nat} {f:FuncId} {g:Operand} {fs vs cs:List Value} {os:List Operand} {tys:Array TypeId} {I':World→Prop} {α:Type} {out:α→Out} {E':α→List A9} (lent:List A9) {lrest:List A9}
  (hd:Nat.blt d C.N=true) (hg:Bw ρ g=some (.func (.func f) fs.toArray cs.toArray)) (ha:Args ρ os vs) (hfn:Aq C.P f=true)
  (hl:l.Perm (lent++lrest)) (spec:Ay C.P f (fs++vs++cs) [] I' out) (ho:∀ x,(out x).l=E' x) (hI:∀ w,(∀ r o,some (r,o)∈lent→w.heap[r]? = some o)→I w→I' w)
  (k:∀ x,(out x).p→KJ C K δ ((d,(out x).v)::ρ) (E' x++l) I):KJ C (Ax C ops ⟨some d,.call ⟨.value g,os.toArray,tys⟩,t,p,af,none⟩ K Q) δ ρ l I:=by
 refine Gf rfl (by simp) fun a w hs hw=>?_
 have hm:=ha.map hs
 have hrun:(execOp a.eval ⟨some d,.call ⟨.value g,os.toArray,tys⟩,t,p,af,none⟩).run C.P w=.ok (.enter f (fs++vs++cs).toArray) w:=by
  simp [execOp,resolve,Deferred.ofValue,hs.ev hg,invoke,hm,Fa hfn]
 rw [hrun,Oper.uponIn_enter]
 refine ⟨fun h=>by simp [wf] at h,?_⟩
 have hw1:=hw.perm hl.symm
 have hk:=G1 lent lrest
 have hlent:∀ r o,some (r,o)∈lent→r∉keys lrest∧¬ C.X r:=fun r o hr=>by
  have hrk:r∈keys lent:=Jh.2 ⟨o,hr⟩
  refine ⟨fun h2=>?_,hw1.ownX r (by rw [hk]; exact List.mem_append_left _ hrk)⟩
  have:=hw1.nodup; rw [hk] at this
  exact (List.nodup_append.1 this).2.2 r hrk r h2 rfl
 have hfr:Ck (fun b=>C.X b∨b∈keys lrest) (fun w=>(∀ r o,some (r,o)∈lent→w.heap[r]? = some o)∧I w) w:=by
  refine Ck.and ?_ ?_
  ·have:∀ L:List A9,(∀ e∈L,e∈lent)→Ck (fun b=>C.X b∨b∈keys lrest) (fun w=>∀ r o,some (r,o)∈L→w.heap[r]? = some o) w:=by
    intro L
    induction L with
    | nil=>intro _; exact ⟨fun _=>False,fun _ h=>h.elim,fun w' _ r o h=>(List.not_mem_nil h).elim⟩
    | cons e L ih =>
     intro hL
     have h1:=ih fun e he=>hL e (.tail _ he)
     cases e with
     | none=>exact h1.mono fun w h r o hr=>h r o ((List.mem_cons.1 hr).resolve_left (by simp))
     | some pr =>
      obtain ⟨r0,o0⟩:=pr
      have hm0:=hL _ (.head _)
      have hb:=Ck.blk (X:=fun b=>C.X b∨b∈keys lrest) (hw1.own r0 o0 (List.mem_append_left _ hm0)) (fun h=>h.elim (hlent r0 o0 hm0).2 (hlent r0 o0 hm0).1)
      refine (hb.and h1).mono fun w h r o hr=>?_
      rcases List.mem_cons.1 hr with he | he
      ·cases he; exact h.1
      ·exact h.2 r o he
   exact this lent fun _ h=>h
  ·exact hw1.fr.weaken fun b _ hx=>by
    rw [hk,List.mem_append]
    rcases hx with hx | hx
    ·exact .inl hx
    ·exact .inr (.inr hx)
 have hsat:WSat (fun b=>C.X b∨b∈keys lrest) (·∈keys []) w [] I' w:=by
  refine ⟨?_,Ext.refl _ _,List.nodup_nil,fun r o h=>(List.not_mem_nil h).elim,fun r h=>(List.not_mem_nil h).elim,fun r h=>(List.not_mem_nil h).elim,?_⟩
  ·rintro b (hb | hb)
   ·exact Nat.lt_of_lt_of_le (hw.lowX b hb) hw.ext.size
   ·exact hw1.lt (by rw [hk]; exact List.mem_append_right _ hb)
  ·refine (hfr.mono fun w h=>hI w h.1 h.2).weaken fun b _ hx=>?_
   rcases hx with hx | hx
   ·exact hx
   ·exact (List.not_mem_nil hx).elim
 refine (Kr (spec _ w hsat)).mono ?_
 rintro e w' ⟨x,hq,rfl,hw'⟩
 refine k x hq _ w' (hs.put hd _) ?_
 rw [ho x] at hw'
 have he:Ext (fun _=>False) w w':=hw'.ext.mono fun b _ h=>(List.not_mem_nil h).elim
 have hb:∀ b,b < w.heap.size→w'.heap[b]? = w.heap[b]?:=fun b hb=>he.block b hb (fun h=>h)
 have hnew:∀ r,r∈keys (E' x)→w.heap.size≤r:=fun r hr=>(hw'.ownM r hr).resolve_left (fun h=>List.not_mem_nil h)
 have hkE:=G1 (E' x) l
 refine ⟨fun b hx=>hw.lowX b hx,⟨he.os.trans hw.ext.os,he.tape.trans hw.ext.tape,he.output.trans hw.ext.output,Nat.le_trans hw.ext.size he.size,fun b hb' hm=>(hb b (Nat.lt_of_lt_of_le hb' hw.ext.size)).trans (hw.ext.block b hb' hm)⟩,?_,fun r o hm=>?_,fun r hr=>?_,fun r hr=>?_,?_⟩
 ·rw [hkE,List.nodup_append]
  exact ⟨hw'.nodup,hw.nodup,fun a ha' b hb' e=>by subst e; have:=hnew a ha'; have:=hw.lt hb'; omega⟩
 ·rcases List.mem_append.1 hm with hm | hm
  ·exact hw'.own r o hm
  ·have:=hw.own r o hm
   rw [hb r (Du this)]; exact this
 ·rw [hkE,List.mem_append] at hr
  rcases hr with hr | hr
  ·intro hx; have:=hnew r hr; have:=hw.lowX r hx; have:=hw.ext.size; omega
  ·exact hw.ownX r hr
 ·rw [hkE,List.mem_append] at hr
  rcases hr with hr | hr
  ·exact .inr (Nat.le_trans hw.ext.size (hnew r hr))
  ·exact hw.ownM r hr
 ·refine Ck.step (Ck.weaken hw.fr fun b hbl hx=>?_) he.size fun b hbl _=>hb b hbl
  rcases hx with hx | hx
  ·exact .inl hx
  ·rw [hkE,List.mem_append] at hx
   rcases hx with hx | hx
   ·have:=hnew b hx; omega
   ·exact .inr hx
theorem dj_three {i j n fuel:Nat} {listed:Array Bool} (hr:Region.ready .any ops listed=[i,j,n]) (hi:(ops[i]?).isSome=true) (hj:(ops[j]?).isSome=true) (hn:(ops[n]?).isSome=true)
  (k:KJ C (Ax C ops (Bf ops i) (aw C ops Q fuel (listed.setIfInBounds i true)) Q) δ ρ l I) (k2:KJ C (Ax C ops (Bf ops j) (aw C ops Q fuel (listed.setIfInBounds j true)) Q) δ ρ l I) (k3:KJ C (Ax C ops (Bf ops n) (aw C ops Q fuel (listed.setIfInBounds n true)) Q) δ ρ l I) :
  KJ C (aw C ops Q (fuel+1) listed) δ ρ l I:=by
 intro a w ha hw
 refine ⟨fun h0=>absurd (hr.symm.trans h0) (by simp),fun m hm=>?_⟩
 rw [hr] at hm
 have go:∀ i,(ops[i]?).isSome=true→KJ C (Ax C ops (Bf ops i) (aw C ops Q fuel (listed.setIfInBounds i true)) Q) δ ρ l I→wpOpIn (wf C.ro) 0 C.P ops Q i (wpAnyIn (wf C.ro) 0 C.P .any ops Q fuel (listed.setIfInBounds i true)) a w:=fun i hi k=>by
  have h:=k a w ha hw
  obtain ⟨o,ho⟩:=Option.isSome_iff_exists.1 hi
  simp only [wpOpIn,ho]
  simpa [Bf,ho,Ax] using h
 rcases List.mem_cons.1 hm with rfl | hm
 ·exact go _ hi k
 ·rcases List.mem_cons.1 hm with rfl | hm
  ·exact go _ hj k2
  ·obtain rfl:m=n:=by simpa using hm
   exact go _ hn k3
theorem sia_agg {k:IntKind} {n:Nat} {xs:List Int} (h:xs.length=n):Value.agg (Gi k n xs h).cs.toArray=.agg (Av k xs).toArray:=rfl
theorem av1 (s:Seg):av [s]=.agg s.cs.toArray:=by show Value.agg _=_; rw [Ib]
end Go.Chx
namespace Go.Chx
open Go Go.Proofs
set_option maxHeartbeats 1000000
set_option maxRecDepth 4000
def le32 (bs:List UInt8):Int :=
 bits .or .u32 (bits .or .u32 (bits .or .u32 (IntKind.u32.wrap ((bs.getD 0 0).toNat:Int)) (IntKind.u32.wrap (IntKind.u32.wrap ((bs.getD 1 0).toNat:Int)*2 ^ (8:Int).toNat))) (IntKind.u32.wrap (IntKind.u32.wrap ((bs.getD 2 0).toNat:Int)*2 ^ (16:Int).toNat))) (IntKind.u32.wrap (IntKind.u32.wrap ((bs.getD 3 0).toNat:Int)*2 ^ (24:Int).toNat))
theorem I4 {xs:List UInt8} {i:Nat} (h:i < xs.length):xs[i]? = some (xs.getD i 0):=by
 rw [List.getD_eq_getElem?_getD,List.getElem?_eq_getElem h]; rfl
theorem cword_spec (bs:List UInt8) (a:Option Addr) (n cap:Nat) (hn:4≤n) (hb:bs.length=n):Ay Tryz.prog 290 [.slice a n cap] [] (fun w=>Sl 1 n (An bs) (.slice a n cap) w∧True) (fun _:Unit=>⟨True,.int .u32 (le32 bs),[],fun _=>True⟩):=by
 refine Aj Tryz.func290 Z Z fun X w0=>(Ab (Aa (oj (Ak Z Z (on (qn (Ab (A5 mo (A3 [0,1,2,3,4,5,6,7,8,9,10,11,12,13,14,15,16,17,18,19,20] (fun _=>false) (by kernel_rfl) Z Z (.det _ (fun Q K R m k=>(mv Z Z k)) (.det _ (fun Q K R m k=>(Fc Z Z Z Tryz.underlying53 Bv (by omega) (fun w h=>Sl.some (h.1.1) (by omega)) k)) (.det _ (fun Q K R m k=>(A4 Z Z Bv (fun w h=>Sl.elem1 (h.1.1) (F6 (I4 (i:=0) (by omega)))) k)) (.det _ (fun Q K R m k=>(Ig Z Tryz.underlying5 Tryz.underlying252 Z k)) (.det _ (fun Q K R m k=>(mv Z Z k)) (.det _ (fun Q K R m k=>(Fc Z Z Z Tryz.underlying53 Bv (by omega) (fun w h=>Sl.some (h.1.1) (by omega)) k)) (.det _ (fun Q K R m k=>(A4 Z Z Bv (fun w h=>Sl.elem1 (h.1.1) (F6 (I4 (i:=1) (by omega)))) k)) ?_))))))))))))))))
 refine .det _ (fun Q K R m k=>(Ig Z Tryz.underlying5 Tryz.underlying252 Z k)) (.det _ (fun Q K R m k=>(shl Z Z Z (by decide) k)) (.det _ (fun Q K R m k=>(bor Z Z Z k)) (.det _ (fun Q K R m k=>(mv Z Z k)) (.det _ (fun Q K R m k=>(Fc Z Z Z Tryz.underlying53 Bv (by omega) (fun w h=>Sl.some (h.1.1) (by omega)) k)) (.det _ (fun Q K R m k=>(A4 Z Z Bv (fun w h=>Sl.elem1 (h.1.1) (F6 (I4 (i:=2) (by omega)))) k)) (.det _ (fun Q K R m k=>(Ig Z Tryz.underlying5 Tryz.underlying252 Z k)) (.det _ (fun Q K R m k=>(shl Z Z Z (by decide) k)) (.det _ (fun Q K R m k=>(bor Z Z Z k)) (.det _ (fun Q K R m k=>(mv Z Z k)) (.det _ (fun Q K R m k=>(Fc Z Z Z Tryz.underlying53 Bv (by omega) (fun w h=>Sl.some (h.1.1) (by omega)) k)) (.det _ (fun Q K R m k=>(A4 Z Z Bv (fun w h=>Sl.elem1 (h.1.1) (F6 (I4 (i:=3) (by omega)))) k)) (.det _ (fun Q K R m k=>(Ig Z Tryz.underlying5 Tryz.underlying252 Z k)) (.det _ (fun Q K R m k=>(shl Z Z Z (by decide) k)) (.nil (Ad 21 ?_)))))))))))))))
 exact (bor Z Z Z (Ad 22 ((Ak Z Z (A6 (qn (Af (As () Z (.tmp Z .nil) Z tR .slnil (fun w h=>tR) (.inl Z)))))))))
def qa (v:List Int) (a b:Nat):List Int:=v.set a (IntKind.u32.wrap (v.getD a 0+v.getD b 0))
def qx (v:List Int) (d a:Nat) (k:Int):List Int:=v.set d (rotl (bits .xor .u32 (v.getD d 0) (v.getD a 0)) k)
theorem Ba {v:List Int} {n:Nat} (h:v.length=n) (a b:Nat):(qa v a b).length=n:=by unfold qa; rw [List.length_set,h]
theorem Bj {v:List Int} {n:Nat} (h:v.length=n) (a b:Nat) (k:Int):(qx v a b k).length=n:=by unfold qx; rw [List.length_set,h]
def mixL (v:List Int) (a b c d:Nat):List Int:=qx (qa (qx (qa (qx (qa (qx (qa v a b) d a 16) c d) b c 12) a b) d a 8) c d) b c 7
theorem mixL_len {v:List Int} {n:Nat} (h:v.length=n) (a b c d:Nat):(mixL v a b c d).length=n:=by
 unfold mixL; exact Bj (Ba (Bj (Ba (Bj (Ba (Bj (Ba h _ _) _ _ _) _ _) _ _ _) _ _) _ _ _) _ _) _ _ _
theorem mixs_spec (r:Nat) (v:List Int) (hv:v.length=16) (a b c d:Nat) (ha:a < 16) (hb:b < 16) (hc:c < 16) (hd:d < 16):Ay Tryz.prog 269 [Bg r 0,iv (a:Int),iv (b:Int),iv (c:Int),iv (d:Int)] [bx r [Gi .u32 16 v hv] 332] (fun _=>True) (fun _:Unit=>⟨True,.tuple #[],[bx r [Gi .u32 16 (mixL v a b c d) (mixL_len hv a b c d)] 332],fun _=>True⟩):=by
 refine Aj Tryz.func269 Z Z fun X w0=>(Ab (A5 mo (A3 [0,1,2,3,4,5,6,7,8,9,10,11] (fun _=>false) (by kernel_rfl) Z Z (.det _ (fun Q K R m k=>(mv Z Z k)) (.det _ (fun Q K R m k=>(mv Z Z k)) (.det _ (fun Q K R m k=>(Cq Z Z k)) (.det _ (fun Q K R m k=>(Gj (n':=a) Z Z Z Tryz.underlying332 Az (by omega) (by simp) k)) (.det _ (fun Q K R m k=>(Bh Z Z Az (.head _) (B6 hv (Bp (by rw [hv]; omega))) k)) (.det _ (fun Q K R m k=>(mv Z Z k)) (.det _ (fun Q K R m k=>(mv Z Z k)) (.det _ (fun Q K R m k=>(Cq Z Z k)) (.det _ (fun Q K R m k=>(Gj (n':=b) Z Z Z Tryz.underlying332 Az (by omega) (by simp) k)) (.det _ (fun Q K R m k=>(Bh Z Z Az (.head _) (B6 hv (Bp (by rw [hv]; omega))) k)) (.det _ (fun Q K R m k=>(Id Z Z Z k)) (.det _ (fun Q K R m k=>(Cq Z Z k)) ?_)))))))))))))))
 refine .nil (Ad 12 ((Gj (n':=a) Z Z Z Tryz.underlying332 Az (by omega) (by simp) (Ad 13 ((stX ([Gi .u32 16 (qa (v) a b) (Ba hv a b)]) Z Z Az Z .head (by rw [En]; omega) (Ey _ _) (A6 (qn (Ab (A5 mo (A3 [0,1,2,3,4,5,6,7,8,9,10,11,12,13,14] (fun _=>false) (by kernel_rfl) Z Z (.det _ (fun Q K R m k=>(mv Z Z k)) (.det _ (fun Q K R m k=>(mv Z Z k)) (.det _ (fun Q K R m k=>(mv Z Z k)) (.det _ (fun Q K R m k=>(mv Z Z k)) (.det _ (fun Q K R m k=>(Cq Z Z k)) (.det _ (fun Q K R m k=>(Gj (n':=d) Z Z Z Tryz.underlying332 Az (by omega) (by simp) k)) ?_)))))))))))))))))
 refine .det _ (fun Q K R m k=>(Bh Z Z Az (.head _) (B6 (Ba hv a b) (Bp (by rw [(Ba hv a b)]; omega))) k)) (.det _ (fun Q K R m k=>(mv Z Z k)) (.det _ (fun Q K R m k=>(mv Z Z k)) (.det _ (fun Q K R m k=>(Cq Z Z k)) (.det _ (fun Q K R m k=>(Gj (n':=a) Z Z Z Tryz.underlying332 Az (by omega) (by simp) k)) (.det _ (fun Q K R m k=>(Bh Z Z Az (.head _) (B6 (Ba hv a b) (Bp (by rw [(Ba hv a b)]; omega))) k)) (.det _ (fun Q K R m k=>(bxor Z Z Z k)) (.det _ (fun Q K R m k=>(Ao Z Z (.cons Z (.cons Z .nil)) Jl (E3 _ _ (by unfold Hm; decide))  (fun w h=>tR) Z (fun _=>Ae (fun w h=>h.2) k))) (.det _ (fun Q K R m k=>(Cq Z Z k)) (.nil (Ad 15 ((Gj (n':=d) Z Z Z Tryz.underlying332 Az (by omega) (by simp) (Ad 16 ((stX ([Gi .u32 16 (qx (qa (v) a b) d a 16) (Bj (Ba hv a b) d a 16)]) Z Z Az Z .head (by rw [En]; omega) (Ey _ _) (A6 (qn ?_)))))))))))))))))
 refine Ab (A5 mo (A3 [0,1,2,3,4,5,6,7,8,9,10,11] (fun _=>false) (by kernel_rfl) Z Z (.det _ (fun Q K R m k=>(mv Z Z k)) (.det _ (fun Q K R m k=>(mv Z Z k)) (.det _ (fun Q K R m k=>(Cq Z Z k)) (.det _ (fun Q K R m k=>(Gj (n':=c) Z Z Z Tryz.underlying332 Az (by omega) (by simp) k)) (.det _ (fun Q K R m k=>(Bh Z Z Az (.head _) (B6 (Bj (Ba hv a b) d a 16) (Bp (by rw [(Bj (Ba hv a b) d a 16)]; omega))) k)) (.det _ (fun Q K R m k=>(mv Z Z k)) (.det _ (fun Q K R m k=>(mv Z Z k)) (.det _ (fun Q K R m k=>(Cq Z Z k)) (.det _ (fun Q K R m k=>(Gj (n':=d) Z Z Z Tryz.underlying332 Az (by omega) (by simp) k)) (.det _ (fun Q K R m k=>(Bh Z Z Az (.head _) (B6 (Bj (Ba hv a b) d a 16) (Bp (by rw [(Bj (Ba hv a b) d a 16)]; omega))) k)) (.det _ (fun Q K R m k=>(Id Z Z Z k)) (.det _ (fun Q K R m k=>(Cq Z Z k)) (.nil ?_)))))))))))))))
 refine Ad 12 ((Gj (n':=c) Z Z Z Tryz.underlying332 Az (by omega) (by simp) (Ad 13 ((stX ([Gi .u32 16 (qa (qx (qa (v) a b) d a 16) c d) (Ba (Bj (Ba hv a b) d a 16) c d)]) Z Z Az Z .head (by rw [En]; omega) (Ey _ _) (A6 (qn (Ab (A5 mo (A3 [0,1,2,3,4,5,6,7,8,9,10,11,12,13,14] (fun _=>false) (by kernel_rfl) Z Z (.det _ (fun Q K R m k=>(mv Z Z k)) (.det _ (fun Q K R m k=>(mv Z Z k)) (.det _ (fun Q K R m k=>(mv Z Z k)) (.det _ (fun Q K R m k=>(mv Z Z k)) (.det _ (fun Q K R m k=>(Cq Z Z k)) (.det _ (fun Q K R m k=>(Gj (n':=b) Z Z Z Tryz.underlying332 Az (by omega) (by simp) k)) (.det _ (fun Q K R m k=>(Bh Z Z Az (.head _) (B6 (Ba (Bj (Ba hv a b) d a 16) c d) (Bp (by rw [(Ba (Bj (Ba hv a b) d a 16) c d)]; omega))) k)) ?_)))))))))))))))))
 refine .det _ (fun Q K R m k=>(mv Z Z k)) (.det _ (fun Q K R m k=>(mv Z Z k)) (.det _ (fun Q K R m k=>(Cq Z Z k)) (.det _ (fun Q K R m k=>(Gj (n':=c) Z Z Z Tryz.underlying332 Az (by omega) (by simp) k)) (.det _ (fun Q K R m k=>(Bh Z Z Az (.head _) (B6 (Ba (Bj (Ba hv a b) d a 16) c d) (Bp (by rw [(Ba (Bj (Ba hv a b) d a 16) c d)]; omega))) k)) (.det _ (fun Q K R m k=>(bxor Z Z Z k)) (.det _ (fun Q K R m k=>(Ao Z Z (.cons Z (.cons Z .nil)) Jl (E3 _ _ (by unfold Hm; decide))  (fun w h=>tR) Z (fun _=>Ae (fun w h=>h.2) k))) (.det _ (fun Q K R m k=>(Cq Z Z k)) (.nil (Ad 15 ((Gj (n':=b) Z Z Z Tryz.underlying332 Az (by omega) (by simp) (Ad 16 ((stX ([Gi .u32 16 (qx (qa (qx (qa (v) a b) d a 16) c d) b c 12) (Bj (Ba (Bj (Ba hv a b) d a 16) c d) b c 12)]) Z Z Az Z .head (by rw [En]; omega) (Ey _ _) (A6 (qn (Ab ?_)))))))))))))))))
 refine A5 mo (A3 [0,1,2,3,4,5,6,7,8,9,10,11] (fun _=>false) (by kernel_rfl) Z Z (.det _ (fun Q K R m k=>(mv Z Z k)) (.det _ (fun Q K R m k=>(mv Z Z k)) (.det _ (fun Q K R m k=>(Cq Z Z k)) (.det _ (fun Q K R m k=>(Gj (n':=a) Z Z Z Tryz.underlying332 Az (by omega) (by simp) k)) (.det _ (fun Q K R m k=>(Bh Z Z Az (.head _) (B6 (Bj (Ba (Bj (Ba hv a b) d a 16) c d) b c 12) (Bp (by rw [(Bj (Ba (Bj (Ba hv a b) d a 16) c d) b c 12)]; omega))) k)) (.det _ (fun Q K R m k=>(mv Z Z k)) (.det _ (fun Q K R m k=>(mv Z Z k)) (.det _ (fun Q K R m k=>(Cq Z Z k)) (.det _ (fun Q K R m k=>(Gj (n':=b) Z Z Z Tryz.underlying332 Az (by omega) (by simp) k)) (.det _ (fun Q K R m k=>(Bh Z Z Az (.head _) (B6 (Bj (Ba (Bj (Ba hv a b) d a 16) c d) b c 12) (Bp (by rw [(Bj (Ba (Bj (Ba hv a b) d a 16) c d) b c 12)]; omega))) k)) (.det _ (fun Q K R m k=>(Id Z Z Z k)) (.det _ (fun Q K R m k=>(Cq Z Z k)) (.nil (Ad 12 ?_)))))))))))))))
 refine (Gj (n':=a) Z Z Z Tryz.underlying332 Az (by omega) (by simp) (Ad 13 ((stX ([Gi .u32 16 (qa (qx (qa (qx (qa (v) a b) d a 16) c d) b c 12) a b) (Ba (Bj (Ba (Bj (Ba hv a b) d a 16) c d) b c 12) a b)]) Z Z Az Z .head (by rw [En]; omega) (Ey _ _) (A6 (qn (Ab (A5 mo (A3 [0,1,2,3,4,5,6,7,8,9,10,11,12,13,14] (fun _=>false) (by kernel_rfl) Z Z (.det _ (fun Q K R m k=>(mv Z Z k)) (.det _ (fun Q K R m k=>(mv Z Z k)) (.det _ (fun Q K R m k=>(mv Z Z k)) (.det _ (fun Q K R m k=>(mv Z Z k)) (.det _ (fun Q K R m k=>(Cq Z Z k)) (.det _ (fun Q K R m k=>(Gj (n':=d) Z Z Z Tryz.underlying332 Az (by omega) (by simp) k)) (.det _ (fun Q K R m k=>(Bh Z Z Az (.head _) (B6 (Ba (Bj (Ba (Bj (Ba hv a b) d a 16) c d) b c 12) a b) (Bp (by rw [(Ba (Bj (Ba (Bj (Ba hv a b) d a 16) c d) b c 12) a b)]; omega))) k)) (.det _ (fun Q K R m k=>(mv Z Z k)) ?_)))))))))))))))))
 refine .det _ (fun Q K R m k=>(mv Z Z k)) (.det _ (fun Q K R m k=>(Cq Z Z k)) (.det _ (fun Q K R m k=>(Gj (n':=a) Z Z Z Tryz.underlying332 Az (by omega) (by simp) k)) (.det _ (fun Q K R m k=>(Bh Z Z Az (.head _) (B6 (Ba (Bj (Ba (Bj (Ba hv a b) d a 16) c d) b c 12) a b) (Bp (by rw [(Ba (Bj (Ba (Bj (Ba hv a b) d a 16) c d) b c 12) a b)]; omega))) k)) (.det _ (fun Q K R m k=>(bxor Z Z Z k)) (.det _ (fun Q K R m k=>(Ao Z Z (.cons Z (.cons Z .nil)) Jl (E3 _ _ (by unfold Hm; decide))  (fun w h=>tR) Z (fun _=>Ae (fun w h=>h.2) k))) (.det _ (fun Q K R m k=>(Cq Z Z k)) (.nil (Ad 15 ((Gj (n':=d) Z Z Z Tryz.underlying332 Az (by omega) (by simp) (Ad 16 ((stX ([Gi .u32 16 (qx (qa (qx (qa (qx (qa (v) a b) d a 16) c d) b c 12) a b) d a 8) (Bj (Ba (Bj (Ba (Bj (Ba hv a b) d a 16) c d) b c 12) a b) d a 8)]) Z Z Az Z .head (by rw [En]; omega) (Ey _ _) (A6 (qn (Ab (A5 mo ?_)))))))))))))))))
 refine A3 [0,1,2,3,4,5,6,7,8,9,10,11] (fun _=>false) (by kernel_rfl) Z Z (.det _ (fun Q K R m k=>(mv Z Z k)) (.det _ (fun Q K R m k=>(mv Z Z k)) (.det _ (fun Q K R m k=>(Cq Z Z k)) (.det _ (fun Q K R m k=>(Gj (n':=c) Z Z Z Tryz.underlying332 Az (by omega) (by simp) k)) (.det _ (fun Q K R m k=>(Bh Z Z Az (.head _) (B6 (Bj (Ba (Bj (Ba (Bj (Ba hv a b) d a 16) c d) b c 12) a b) d a 8) (Bp (by rw [(Bj (Ba (Bj (Ba (Bj (Ba hv a b) d a 16) c d) b c 12) a b) d a 8)]; omega))) k)) (.det _ (fun Q K R m k=>(mv Z Z k)) (.det _ (fun Q K R m k=>(mv Z Z k)) (.det _ (fun Q K R m k=>(Cq Z Z k)) (.det _ (fun Q K R m k=>(Gj (n':=d) Z Z Z Tryz.underlying332 Az (by omega) (by simp) k)) (.det _ (fun Q K R m k=>(Bh Z Z Az (.head _) (B6 (Bj (Ba (Bj (Ba (Bj (Ba hv a b) d a 16) c d) b c 12) a b) d a 8) (Bp (by rw [(Bj (Ba (Bj (Ba (Bj (Ba hv a b) d a 16) c d) b c 12) a b) d a 8)]; omega))) k)) (.det _ (fun Q K R m k=>(Id Z Z Z k)) (.det _ (fun Q K R m k=>(Cq Z Z k)) (.nil (Ad 12 ((Gj (n':=c) Z Z Z Tryz.underlying332 Az (by omega) (by simp) ?_))))))))))))))))
 refine Ad 13 ((stX ([Gi .u32 16 (qa (qx (qa (qx (qa (qx (qa (v) a b) d a 16) c d) b c 12) a b) d a 8) c d) (Ba (Bj (Ba (Bj (Ba (Bj (Ba hv a b) d a 16) c d) b c 12) a b) d a 8) c d)]) Z Z Az Z .head (by rw [En]; omega) (Ey _ _) (A6 (qn (A5 mo (A3 [0,1,2,3,4,5,6,7,8,9,10,11,12,13,14] (fun _=>false) (by kernel_rfl) Z Z (.det _ (fun Q K R m k=>(mv Z Z k)) (.det _ (fun Q K R m k=>(mv Z Z k)) (.det _ (fun Q K R m k=>(mv Z Z k)) (.det _ (fun Q K R m k=>(mv Z Z k)) (.det _ (fun Q K R m k=>(Cq Z Z k)) (.det _ (fun Q K R m k=>(Gj (n':=b) Z Z Z Tryz.underlying332 Az (by omega) (by simp) k)) (.det _ (fun Q K R m k=>(Bh Z Z Az (.head _) (B6 (Ba (Bj (Ba (Bj (Ba (Bj (Ba hv a b) d a 16) c d) b c 12) a b) d a 8) c d) (Bp (by rw [(Ba (Bj (Ba (Bj (Ba (Bj (Ba hv a b) d a 16) c d) b c 12) a b) d a 8) c d)]; omega))) k)) (.det _ (fun Q K R m k=>(mv Z Z k)) (.det _ (fun Q K R m k=>(mv Z Z k)) (.det _ (fun Q K R m k=>(Cq Z Z k)) ?_))))))))))))))))
 exact .det _ (fun Q K R m k=>(Gj (n':=c) Z Z Z Tryz.underlying332 Az (by omega) (by simp) k)) (.det _ (fun Q K R m k=>(Bh Z Z Az (.head _) (B6 (Ba (Bj (Ba (Bj (Ba (Bj (Ba hv a b) d a 16) c d) b c 12) a b) d a 8) c d) (Bp (by rw [(Ba (Bj (Ba (Bj (Ba (Bj (Ba hv a b) d a 16) c d) b c 12) a b) d a 8) c d)]; omega))) k)) (.det _ (fun Q K R m k=>(bxor Z Z Z k)) (.det _ (fun Q K R m k=>(Ao Z Z (.cons Z (.cons Z .nil)) Jl (E3 _ _ (by unfold Hm; decide))  (fun w h=>tR) Z (fun _=>Ae (fun w h=>h.2) k))) (.det _ (fun Q K R m k=>(Cq Z Z k)) (.nil (Ad 15 ((Gj (n':=b) Z Z Z Tryz.underlying332 Az (by omega) (by simp) (Ad 16 ((stX ([Gi .u32 16 (qx (qa (qx (qa (qx (qa (qx (qa (v) a b) d a 16) c d) b c 12) a b) d a 8) c d) b c 7) (Bj (Ba (Bj (Ba (Bj (Ba (Bj (Ba hv a b) d a 16) c d) b c 12) a b) d a 8) c d) b c 7)]) Z Z Az Z .head (by rw [En]; omega) (Ey _ _) (A6 (As () Z .nil Z tR (.refl _) (fun w h=>tR) (.inr Z))))))))))))))
def E7:List Int:=[1634760805,857760878,2036477234,1797285236]
def fK (k:List UInt8):Nat→List Int
 | 0=>E7++List.replicate 12 0
 | i+1=>(fK k i).set (4+i) (le32 (k.drop (4*i)))
theorem fK_len (k:List UInt8):∀ i,(fK k i).length=16
 | 0=>rfl
 | i+1=>by rw [fK,List.length_set,fK_len k i]
def fN (k:List UInt8) (n:List UInt8) (ctr:Int):Nat→List Int
 | 0=>(fK k 8).set 12 ctr
 | i+1=>(fN k n ctr i).set (13+i) (le32 (n.drop (4*i)))
theorem Fl (k n:List UInt8) (ctr:Int):∀ i,(fN k n ctr i).length=16
 | 0=>by rw [fN,List.length_set,fK_len]
 | i+1=>by rw [fN,List.length_set,Fl k n ctr i]
theorem row_from {r k N:Nat} {bs:List UInt8} {te:TypeId} {w:World} {h:bs.length=N} (hr:Bc r [It N bs h] te w) (hk:k≤N):Sl 1 (N-k) (An (bs.drop k)) (.slice (some ⟨r,k,none⟩) (N-k) (N-k)) w:=by
 have:=row_win (k:=k) (L:=N-k) (cap:=N-k) hr (by omega) (Nat.le_refl _)
 rw [List.take_of_length_le (by rw [List.length_drop]; omega)] at this
 exact this
theorem ad1 (r n:Nat):(Addr.add ⟨r,0,none⟩ n)=⟨r,n,none⟩:=by by_cases h:n=0 <;> simp [Addr.add,h]
theorem cC_flat {k:List UInt8} {h0:(List.replicate 16 (0:Int)).length=16}:(flat [zia .u32 16]).take 0++Av .u32 E7++(flat [zia .u32 16]).drop (0+4*1)=flat [Gi .u32 16 (fK k 0) (fK_len k 0)]:=by
 rw [Ib,Ib]; rfl
theorem first_spec (k:Dig) (n:List UInt8) (hn:n.length=12) (ctr:Int):Ay Tryz.prog 268 [dv k,.agg (It 12 n hn).cs.toArray,.int .u32 ctr] [] (fun w=>De 6 (Av .u32 E7) w∧True) (fun _:Unit=>⟨True,.agg (Av .u32 (fN k.b n ctr 3)).toArray,[],fun _=>True⟩):=by
 refine Aj Tryz.func268 Z Z fun X w0=>(Ab (Aa (oj (Gx Z Z (fun r3=>(Al (Am 0 _ _ Z) ?_))))))
 try dsimp only [List.eraseIdx]
 refine oj (Gx Z Z (fun r4=>(Al (Am 0 _ _ Z) ?_)))
 try dsimp only [List.eraseIdx]
 refine oj (C7 Z zok_332 (fun r6=>(on (qn (Ab (A5 mo (A3 [0,1] (fun _=>false) (by kernel_rfl) Z Z (.det _ (fun Q K R m k=>(slp Z Z Tryz.underlying332 Az Z Z (.inl Z) Z k)) (.det _ (fun Q K R m k=>(slp Z Z Tryz.underlying347 Az Z Z (.inl Z) Z k)) (.nil (Ad 2 ((cpy (r:=r6) (o:=0) (dl:=16) (dc:=16) (m:=4) (n:=4) ([Gi .u32 16 (fK k.b 0) (fK_len k.b 0)]) Z Z Z Tryz.underlying325 Az .head (Z) (fun w ho h=>SrcN.at (h.2.2.1) (by rw [icells_len]; rfl) (icells_one _ _)) (by decide) ((cC_flat (h0:=Z)).symm) (A6 (qn (Ab (Ab (Aa ?_))))))))))))))))))
 refine oj (mv Z Z (on (qn (Ag (Aw (fun (sT:(Nat))=>(⟨sT≤8,[(2,.int .u32 ctr),(3,Bg r3 0),(4,Bg r4 0),(6,Bg r6 0),(12,iv (sT:Int))],[bx r6 [Gi .u32 16 (fK k.b sT) (fK_len k.b sT)] 332],fun w=>Bc r3 [sd k] 67 w∧Bc r4 [It 12 n hn] 173 w∧True,8-sT⟩:Hd)) (0) (by (try dsimp only); omega) (⟨Z,Z,Z,Z,Z,tR⟩) (.refl _) (fun w h=>⟨(h.2.1.1),(h.1.1),tR⟩) ?_)))))
 rintro i hi
 try dsimp only
 refine Ab (Aa (oj (Dd Z Z Z (on (qn (Ab ?_))))))
 refine A8 Z (fun ht=>?_) (fun hf=>?_)
 ·refine Ah (qn (Ab (Ag (Ab (Aa (oj (mv Z Z (oj (Ak Z Z (on (qn (Aa (oj (mv Z Z (oj (add Z Z Z (by omega) (oj (mv Z Z (oj (mul Z Z Z (by omega) (oj (slp (l':=4*i) Z Z Tryz.underlying67 Bv Z Z (.inl Z) ⟨_,(show Bw _ _=some (.int .i64 ((4*i:Nat):Int)) from congrArg some (congrArg (Value.int .i64) (by omega))),by omega⟩ ?_))))))))))))))))))))))
  exact Ac (d:=19) (v:=.slice (some ⟨r3,4*i,none⟩) (32-4*i) (32-4*i)) Z (by rw [← ad1 r3 (4*i)]; simp; intro h; exfalso; omega) (oj (Ao Z Z (.cons Z .nil) fb_290 (cword_spec (k.b.drop (4*i)) _ _ _ (by omega) (by rw [List.length_drop,k.h]))  (fun w h=>⟨row_from (h.1) (by omega),tR⟩) Z (fun _=>(Ae (fun w h=>h.2) (oj (Gj (n':=4+i) Z Z Z Tryz.underlying332 Az (by omega) (by omega) (oj (stX ([Gi .u32 16 (fK k.b (i+1)) (fK_len k.b (i+1))]) Z Z Az Z .head (by rw [En]; omega) (Ey _ _) (on (bn (qn (Aa (oj (add Z Z Z (by omega) (oj (mv Z Z (on (qn (Ar (i+1) (by dsimp only; omega) (by (try dsimp only); omega) (⟨Z,Z,Z,Z,Z,tR⟩) (.refl _) (fun w h=>⟨(h.1),(h.2.1),tR⟩))))))))))))))))))))
 ·have h4:i=8:=by omega
  subst h4
  refine A1 (qe (qe (be (qn (Ab (Aa (oj (mv Z Z (oj (Gj (n':=12) Z Z Z Tryz.underlying332 Az (by decide) Z (oj (stX ([Gi .u32 16 (fN k.b n ctr 0) (Fl k.b n ctr 0)]) Z Z Az Z .head (by rw [En]; omega) (Ey _ _) (on (qn (Ab (Ab (Aa (oj (mv Z Z ?_)))))))))))))))))))
  refine on (qn (Ag (Aw (fun (sT:(Nat))=>(⟨sT≤3,[(4,Bg r4 0),(6,Bg r6 0),(25,iv (sT:Int))],[bx r6 [Gi .u32 16 (fN k.b n ctr sT) (Fl k.b n ctr sT)] 332],fun w=>Bc r4 [It 12 n hn] 173 w∧True,3-sT⟩:Hd)) (0) (by (try dsimp only); omega) (⟨Z,Z,Z,tR⟩) (.refl _) (fun w h=>⟨(h.2.1),tR⟩) ?_)))
  rintro i hi
  try dsimp only
  refine Ab (Aa (oj (Dd Z Z Z (on (qn (Ab ?_))))))
  refine A8 Z (fun ht=>?_) (fun hf=>?_)
  ·refine Ah (qn (Ab (Ag (Ab (Aa (oj (mv Z Z (oj (Ak Z Z (on (qn (Aa (oj (mv Z Z (oj (add Z Z Z (by omega) (oj (mv Z Z (oj (mul Z Z Z (by omega) (oj (slp (l':=4*i) Z Z Tryz.underlying173 Bv Z Z (.inl Z) ⟨_,(show Bw _ _=some (.int .i64 ((4*i:Nat):Int)) from congrArg some (congrArg (Value.int .i64) (by omega))),by omega⟩ ?_))))))))))))))))))))))
   exact Ac (d:=32) (v:=.slice (some ⟨r4,4*i,none⟩) (12-4*i) (12-4*i)) Z (by rw [← ad1 r4 (4*i)]; simp; intro h; exfalso; omega) (oj (Ao Z Z (.cons Z .nil) fb_290 (cword_spec (n.drop (4*i)) _ _ _ (by omega) (by rw [List.length_drop,hn]))  (fun w h=>⟨row_from (h.1) (by omega),tR⟩) Z (fun _=>(Ae (fun w h=>h.2) (oj (Gj (n':=13+i) Z Z Z Tryz.underlying332 Az (by omega) (by omega) (oj (stX ([Gi .u32 16 (fN k.b n ctr (i+1)) (Fl k.b n ctr (i+1))]) Z Z Az Z .head (by rw [En]; omega) (Ey _ _) (on (bn (qn (Aa (oj (add Z Z Z (by omega) (oj (mv Z Z (on (qn (Ar (i+1) (by dsimp only; omega) (by (try dsimp only); omega) (⟨Z,Z,Z,tR⟩) (.refl _) (fun w h=>⟨(h.1),tR⟩))))))))))))))))))))
  ·have h4:i=3:=by omega
   subst h4
   exact A1 (qe (qe (be (qn (Ab (Aa (oj (Js Z Z ty_332 (.head _) Z Z (oj (Cf Z Z ty_332 Z .head (.head Z) Z (on (qn (Af (As () Z (Hk Z ty_332 (.head _) Z .nil) Z tR (Bl _) (fun w h=>tR) (.inl Z)))))))))))))))
end Go.Chx
