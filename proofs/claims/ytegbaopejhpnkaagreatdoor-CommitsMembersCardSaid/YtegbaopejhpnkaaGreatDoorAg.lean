/- Part of the proof that the law CommitsMembers holds. -/
import Derived.LoopNIn
import Derived.Lib.SlicesCompact
import Derived.Test.YtegbaopejhpnkaaGreatDoorAa
import Derived.Test.YtegbaopejhpnkaaGreatDoorAf
namespace Go.Chx
open Go
variable {C:Ctx} {δ:List Deferred} {ρ:Da} {l:List A9} {I:World→Prop} {K:Act→World→Prop} {Q:Exit→Act→World→Prop} {ops:Array Oper}
variable {t:TypeId} {p:String} {af:Array Edge}
def YLr (P:Program) (y:Nat) {σ β:Type} (enc:β→List Value) (R:σ→β→Prop) (Ps:σ→Prop) (L:σ→List A9) (J:σ→World→Prop) (T:σ→β→σ→Prop):Prop :=
 ∀ s x,R s x→Ps s→Yields P y (enc x) (L s) (J s) (fun s'=>⟨Ps s'∧T s x s',.bool true,L s',J s'⟩)
def Fd (P:Program) (f:FuncId) (fs cs:List Value) (W:List A9) (I':World→Prop) {β:Type} (enc:β→List Value) (G:List β→Prop):Prop :=
 ∀ (y:Nat) (σ:Type) (Ps:σ→Prop) (L:σ→List A9) (J:σ→World→Prop) (T:σ→β→σ→Prop) (s0:σ),Ps s0→YLr P y enc (fun s x=>∃ ys zs,Run T ys s0 s∧G (ys++x::zs)) Ps L J T →
  Ay P f (fs++[.func (.yield y) #[] #[]]++cs) (W++L s0) (fun w=>J s0 w∧I' w) (fun s'=>⟨Ps s'∧∃ xs,G xs∧Run T xs s0 s',.tuple #[],L s',J s'⟩)
theorem yldr {σ β:Type} {own:List A9} {L:σ→List A9} {J:σ→World→Prop} {s:σ} {x:β} {enc:β→List Value} {R:σ→β→Prop} {Ps:σ→Prop} {T:σ→β→σ→Prop} {d y:Nat} {g:Operand} {os:List Operand} {tys:Array TypeId}
  (hY:YLr C.P y enc R Ps L J T) (hx:R s x) (hs:Ps s) (hd:Nat.blt d C.N=true) (hg:Bw ρ g=some (.func (.yield y) #[] #[])) (ha:Args ρ os (enc x))
  (hl:l=own++L s) (hI:∀ w,I w→J s w) (k:∀ s',Ps s'→T s x s'→KJ C K δ ((d,.bool true)::ρ) (own++L s') (fun w=>J s' w∧I w)) :
  KJ C (Ax C ops ⟨some d,.call ⟨.value g,os.toArray,tys⟩,t,p,af,none⟩ K Q) δ ρ l I:=by
 subst hl
 exact st_yld rfl hd hg ha (hY s x hx hs) List.perm_append_comm hI fun s' hp=>Cn List.perm_append_comm (k s' hp.1 hp.2)
theorem Hr {σ β:Type} {g:Operand} {pl:List Tmp} {as bd:Code} {f:FuncId} {fs cs:List Value} {I':World→Prop} {enc:β→List Value} {G:List β→Prop} {W:List A9} (hro:C.ro=none)
  (hg:Bw ρ g=some (.func (.func f) fs.toArray cs.toArray)) (hfn:Aq C.P f=true) (it:Fd C.P f fs cs W I' enc G)
  (st:σ→Hd) (T:σ→β→σ→Prop) (s0:σ) (hp0:(st s0).p) (hl0:(W++(st s0).l).Sublist l) (hI':∀ w,I w→I' w) (hI0:∀ w,I w→(st s0).I w)
  (hps:∀ x,(enc x).length=pl.length∧(pl.all fun q=>Nat.blt q C.N)=true)
  (round:∀ (s:σ) (x:β),(st s).p→(∃ ys zs,Run T ys s0 s∧G (ys++x::zs))→∀ (rl rd:Nat) (fn:FuncId) (tm:Array Value) (X:Nat→Prop) (w:World),
   KJ (rctx C rl X ((st s).l++[some (rl,H2 .ready fn tm pl.toArray as bd rd)]) w)
    (cw (rctx C rl X ((st s).l++[some (rl,H2 .ready fn tm pl.toArray as bd rd)]) w) as (Exit.then (bgnK (rctx C rl X ((st s).l++[some (rl,H2 .ready fn tm pl.toArray as bd rd)]) w) rl bd
     (roundPost C.P rl (Post X ((st s).l++[some (rl,H2 .ready fn tm pl.toArray as bd rd)]) w (fun s'=>⟨(st s').p∧T s x s',.bool true,(st s').l++[some (rl,H2 .ready fn tm pl.toArray as bd rd)],(st s').I⟩)))) (fun _ _ _=>False)))
    [] (bindE (pl.zip (enc x)) ρ) ((st s).l++[some (rl,H2 .ready fn tm pl.toArray as bd rd)]) (st s).I)
  (k:∀ s' rd,(st s').p→(∃ xs,G xs∧Run T xs s0 s')→KJ C (Q .normal) (mkD rd::δ) ρ (mkE rd::(st s').l) (fun w=>(st s').I w∧I w)) :
  KJ C (cw C (.rangeFunc g pl.toArray as bd) Q) δ ρ l I:=by
 intro a w ha hw
 refine wpIn_rangeFunc fun fn _=>?_
 let rl:=w.heap.size+1
 let rd:=w.heap.size
 let rc:Obj:=H2 .ready fn a.tmps pl.toArray as bd rd
 let w1:=w.alloc (.deferred (some []))
 let w2:=w1.alloc rc
 have hw1:WSat C.X C.M C.w0 (mkE rd::l) I w1:=hw.push rfl rfl rfl rfl
 have hw2:WSat C.X C.M C.w0 (some (rl,rc)::mkE rd::l) I w2:=by
  have:=hw1.push (w':=w2) (o:=rc) rfl rfl rfl rfl
  have e:w1.heap.size=rl:=by simp [w1,rl,World.size_alloc]
  rw [e] at this
  exact this
 let L:σ→List A9:=fun s=>(st s).l++[some (rl,rc)]
 have hY:YLr C.P rl enc (fun s x=>∃ ys zs,Run T ys s0 s∧G (ys++x::zs)) (fun s=>(st s).p) L (fun s=>(st s).I) T:=by
  intro s x hx hs X v hv
  have hrec:v.heap[rl]? = some (.loop { state:=.ready,pending:=none,fn:=fn,tmps:=a.tmps,params:=pl.toArray,assign:=as,body:=bd,defers:=rd }):=hv.own rl rc (List.mem_append_right _ (.head _))
  refine ⟨_,_,_,_,run_yield hrec (by simpa using (hps x).1),(roundIn_of_wpIn trivial ?_)⟩
  have hsim:Sim C.N [] ρ { tmps:=a.tmps,defers:=[] }:=⟨ha.size,rfl,ha.get⟩
  have hb:=sim_bind (pl.zip (enc x)) ρ a.tmps hsim (by
   exact List.all_eq_true.2 fun q hq=>(List.all_eq_true.1 (hps x).2 q.1 (List.of_mem_zip hq).1))
  have:=round s x hs hx rl rd fn a.tmps X v _ v hb hv
  have e2:((pl.toArray.zip (enc x).toArray).foldl (fun tmps (q:Nat × Value)=>tmps.setIfInBounds q.1 q.2) a.tmps)=(pl.zip (enc x)).foldl (fun tmps (q:Nat × Value)=>tmps.setIfInBounds q.1 q.2) a.tmps:=by simp
  change Code.wpIn _ 0 _ _ _ { tmps:=(pl.toArray.zip (enc x).toArray).foldl (fun tmps (q:Nat × Value)=>tmps.setIfInBounds q.1 q.2) a.tmps,defers:=[] } v
  rw [e2]
  exact this
 have hspec:=it rl σ _ L _ T s0 hp0 hY (fun b=>C.X b∨b∈keys [mkE rd])
 have hw3:WSat C.X C.M C.w0 ((W++L s0)++[mkE rd]) I w2:=by
  have:=(hw2.sub ((hl0.cons_cons _).cons_cons _)).perm (perm3 _ _ _)
  simp only [List.append_assoc] at this
  simp only [L,List.append_assoc]
  exact this
 have hh:=hw3.hand (J:=fun w=>(st s0).I w∧I' w) (fun w h=>⟨hI0 w h,hI' w h⟩)
 refine ⟨rl,[mkD rd],w2,⟨.fn (Fn.func f) cs.toArray,(fs++[Value.func (Fn.yield rl) #[] #[]]).toArray⟩,w2,f,(fs++[Value.func (Fn.yield rl) #[] #[]]++cs).toArray,w2,?_,?_,fun _ _=>trivial,?_,fun h=>by simp [wf] at h,?_⟩
 ·have:(wf C.ro).round=none:=hro
  rw [this]; exact run_enterLoop_outer fn a.tmps pl.toArray as bd
 ·have hy:a.eval (.const (.func (.yield rl) #[] #[]))=.func (.yield rl) #[] #[]:=rfl
  simp [resolve,rangeCall,ha.ev hg,Deferred.ofValue,hy]
 ·simp [invoke,Fa hfn]
 ·refine (Kr (hspec w2 hh)).mono ?_
  rintro e w' ⟨s',hp,rfl,hw'⟩
  have hb:=hw3.back hw'
  have hrec:w'.heap[rl]? = some (.loop { state:=.ready,pending:=none,fn:=fn,tmps:=a.tmps,params:=pl.toArray,assign:=as,body:=bd,defers:=rd }):=hb.own rl rc (List.mem_append_left _ (List.mem_append_right _ (.head _)))
  refine ⟨_,_,run_endLoop hrec (by simp),?_⟩
  refine k s' rd hp.1 hp.2 _ _ ⟨ha.size,by rw [← ha.dfr]; rfl,ha.get⟩ ?_
  have hu:Upd (L s'++[mkE rd]) (some (rl,rc)) (some (rl,.loop { state:=.exhausted,pending:=none,fn:=fn,tmps:=a.tmps,params:=pl.toArray,assign:=as,body:=bd,defers:=rd })) ((st s').l++[some (rl,.loop { state:=.exhausted,pending:=none,fn:=fn,tmps:=a.tmps,params:=pl.toArray,assign:=as,body:=bd,defers:=rd })]++[mkE rd]):=by
   simp only [L,List.append_assoc]
   exact upd_append _ .head
  have h5:=Ho hb hu
  exact (h5.perm (l':=some (rl,.loop { state:=.exhausted,pending:=none,fn:=fn,tmps:=a.tmps,params:=pl.toArray,assign:=as,body:=bd,defers:=rd })::mkE rd::(st s').l) ((perm3 _ _ _).symm)).sub (.cons _ (.refl _))
theorem run_map {σ β γ:Type} {T:σ→β→σ→Prop} {g:σ→List γ} {f:β→γ} (hT:∀ s x s',T s x s'→g s'=g s++[f x]) {xs:List β} {s s':σ} (h:Run T xs s s'):g s'=g s++xs.map f:=by
 induction h with
 | nil=>simp
 | cons h _ ih=>rw [ih,hT _ _ _ h]; simp
theorem xor_sib {n:Nat} (h:n < 1024):bits .xor .i64 (n:Int) 1=((n ^^^ 1:Nat):Int):=by
 have:(List.range 1024).all (fun n=>bits .xor .i64 (n:Int) 1 == ((n ^^^ 1:Nat):Int))=true:=by kernel_rfl
 have:=List.all_eq_true.1 this n (List.mem_range.2 h)
 simpa using this
theorem fi_one (xs:List Int):(xs.flatMap fun x=>[Value.int .i64 x]).all (·.oneCell')=true:=Do (fun _=>rfl) xs
def MapO (r:Nat) (es:Array MapEntry) (cl:Nat) (w:World):Prop:=w.heap[r]? = some (.map es cl)
theorem MapO.f {r:Nat} {es:Array MapEntry} {cl:Nat} {w:World} {f:Int→Option Value} (h:MapO r es cl w) (hm:MapI es cl f):MapF r f w:=⟨es,cl,h,hm⟩
theorem kj_pubO {r i:Nat} {es:Array MapEntry} {clock:Nat} (hen:l[i]? = some (mpE r es clock)) (k:KJ C K δ ρ (l.eraseIdx i) (fun w=>(MapO r es clock w∧True)∧I w)):KJ C K δ ρ l I :=
 kj_pub (Am i l _ hen) (Ae (fun _ hw=>⟨⟨hw.1,trivial⟩,hw.2⟩) k)
abbrev itE (q r cl:Nat) (seen:List Nat):A9:=some (q,.mapIter (some r) cl seen.toArray cl)
theorem mrg {d r cl:Nat} {es:Array MapEntry} {x:Operand} {tt k e:TypeId} (hd:Nat.blt d C.N=true) (hx:Bw ρ x=some (mpV r)) (ht:C.P.underlying tt=some (.map k e)) (hI:∀ w,I w→MapO r es cl w)
  (kk:∀ q,KJ C K δ ((d,Bg q 0)::ρ) (itE q r cl []::l) I):KJ C (Ax C ops ⟨some d,.range tt x,t,p,af,none⟩ K Q) δ ρ l I :=
 Jw (v:=fun q=>Bg q 0) (ob:=.mapIter (some r) cl #[] cl) rfl rfl (by simp) hd (fun a w ha hw=>by
  simp [execOp,ha.ev hx,run_range_map w tt k e r es cl ht (hI w hw.fr.holds)]) kk
theorem mrn {d:Nat} {x:Operand} {tt k e:TypeId} (hd:Nat.blt d C.N=true) (hx:Bw ρ x=some (.map none)) (ht:C.P.underlying tt=some (.map k e))
  (kk:∀ q,KJ C K δ ((d,Bg q 0)::ρ) (some (q,.mapIter none 0 #[] 0)::l) I):KJ C (Ax C ops ⟨some d,.range tt x,t,p,af,none⟩ K Q) δ ρ l I :=
 Jw (v:=fun q=>Bg q 0) (ob:=.mapIter none 0 #[] 0) rfl rfl (by simp) hd (fun a w ha hw=>by
  simp [execOp,ha.ev hx,run_range_nilMap w tt k e ht]) kk
theorem mnn {d q:Nat} {x:Operand} (hd:Nat.blt d C.N=true) (hx:Bw ρ x=some (Bg q 0)) (hm:some (q,.mapIter none 0 #[] 0)∈l) (kk:KJ C K δ ((d,.tuple #[.bool false])::ρ) l I) :
  KJ C (Ax C ops ⟨some d,.next x false,t,p,af,none⟩ K Q) δ ρ l I :=
 Bm rfl rfl (by simp) hd (fun a w ha hw=>by
  have:=hw.own _ _ hm
  simp [execOp,ha.ev hx,Instr.next,getObj,Sem.run,this,Result.andThen]) kk
def keyI (e:MapEntry):Int:=match e.key with | .int _ x=>x | _=>0
theorem mnx {d q r cl:Nat} {es:Array MapEntry} {f:Int→Option Value} {zs:List MapEntry} {x:Operand} {l':List Nat→List A9} (hd:Nat.blt d C.N=true) (hx:Bw ρ x=some (Bg q 0)) (hm:MapI es cl f) (hI:∀ w,I w→MapO r es cl w)
  (hu:∀ s,Upd l (itE q r cl (zs.map (·.born))) (itE q r cl s) (l' s))
  (k0:(∀ e∈es.toList,e.born∈zs.map (·.born))→KJ C K δ ((d,.tuple #[.bool false])::ρ) l I)
  (k1:∀ e∈es.toList,e.born∉zs.map (·.born)→KJ C K δ ((d,.tuple #[.bool true,.int .i64 (keyI e),e.val])::ρ) (l' ((zs++[e]).map (·.born))) I) :
  KJ C (Ax C ops ⟨some d,.next x false,t,p,af,none⟩ K Q) δ ρ l I:=by
 refine Gf rfl (by simp) fun a w ha hw=>?_
 have hq:=hw.own _ _ (hu []).mem
 rcases run_next_at (P:=C.P) w t q r cl cl (zs.map (·.born)).toArray es cl hq (hI w hw.fr.holds) hm.lt (Nat.le_refl _) with ⟨h0,hrun⟩ | ⟨e,he,w1,hw1,hrun⟩
 ·have:(execOp a.eval ⟨some d,.next x false,t,p,af,none⟩).run C.P w=.ok (.value (.tuple #[.bool false])) w:=by simp [execOp,ha.ev hx,hrun]
  rw [this,Oper.uponIn_value]
  refine k0 (fun e he=>(Classical.byContradiction fun hn=>?_)) _ _ (ha.put hd _) hw
  have:e∈(leftOf es (zs.map (·.born)).toArray):=by
   simp only [leftOf,Array.mem_filter]
   exact ⟨by simpa using he,by simpa using hn⟩
  have:=Array.size_pos_of_mem this
  omega
 ·obtain ⟨he1,he2⟩:e∈es.toList∧e.born∉zs.map (·.born):=by
   simp only [leftOf,Array.mem_toList_iff,Array.mem_filter] at he
   exact ⟨by simpa using he.1,by simpa using he.2⟩
  obtain ⟨y,hy,_⟩:=hm.keys e he1
  have hk:e.key=.int .i64 (keyI e):=by unfold keyI; rw [hy]
  have hrun':(execOp a.eval ⟨some d,.next x false,t,p,af,none⟩).run C.P w=.ok (.value (.tuple #[.bool true,.int .i64 (keyI e),e.val])) (ChangeMaps.setBlock w1 q (.mapIter (some r) cl ((zs.map (·.born)).toArray.push e.born) cl)):=by
   rw [← hk]; simp [execOp,ha.ev hx,hrun]
  rw [hrun',Oper.uponIn_value]
  have hs:(zs.map (·.born)).toArray.push e.born=((zs++[e]).map (·.born)).toArray:=by simp
  rw [hs]
  have hlt:=Du hq
  refine k1 e he1 he2 _ _ (ha.put hd _) (hw.upd (hu _) ?_ ?_ ?_ ?_ ?_ ?_)
  ·have:w1.heap=w.heap:=by rcases hw1 with rfl | rfl <;> rfl
   simp [ChangeMaps.setBlock,this]
  ·have:w1.heap=w.heap:=by rcases hw1 with rfl | rfl <;> rfl
   simp [ChangeMaps.setBlock,this,hlt]
  ·intro b hb
   have:w1.heap=w.heap:=by rcases hw1 with rfl | rfl <;> rfl
   simp [ChangeMaps.setBlock,this,Ne.symm hb]
  ·rcases hw1 with rfl | rfl <;> rfl
  ·rcases hw1 with rfl | rfl <;> rfl
  ·rcases hw1 with rfl | rfl <;> rfl
theorem ment {d q r cl:Nat} {es:Array MapEntry} {f:Int→Option Value} {zs:List MapEntry} {e:MapEntry} {x:Operand} (hd:Nat.blt d C.N=true) (hx:Bw ρ x=some (Bg q 0)) (hm:MapI es cl f) (hI:∀ w,I w→MapO r es cl w)
  (hl:itE q r cl ((zs++[e]).map (·.born))∈l) (he:e∈es.toList) (kk:KJ C K δ ((d,.tuple #[.int .i64 (keyI e),e.val])::ρ) l I) :
  KJ C (Ax C ops ⟨some d,.entry x,t,p,af,none⟩ K Q) δ ρ l I :=
 Bm rfl rfl (by simp) hd (fun a w ha hw=>by
  have hq:=hw.own _ _ hl
  have hs:(zs.map (·.born)).toArray.push e.born=((zs++[e]).map (·.born)).toArray:=by simp
  rw [← hs] at hq
  obtain ⟨y,hy,_⟩:=hm.keys e he
  have hk:e.key=.int .i64 (keyI e):=by unfold keyI; rw [hy]
  have:=run_entry_at (P:=C.P) w q r cl (zs.map (·.born)).toArray es cl e hq (hI w hw.fr.holds) he hm.nd
  rw [hk] at this
  simp [execOp,ha.ev hx,this]) kk
def KeysOf (f:Int→Option Value) (xs:List Int):Prop:=xs.Nodup∧∀ x,x∈xs↔(f x).isSome=true
theorem keys_all {es:Array MapEntry} {cl:Nat} {f:Int→Option Value} {zs:List MapEntry} (hm:MapI es cl f) (h1:∀ e∈zs,e∈es.toList) (h2:(zs.map (·.born)).Nodup) (h3:∀ e∈es.toList,e.born∈zs.map (·.born)):KeysOf f (zs.map keyI):=by
 have hkey:∀ e∈es.toList,e.key=.int .i64 (keyI e)∧f (keyI e)=some e.val:=fun e he=>by
  obtain ⟨y,hy,hf⟩:=hm.keys e he
  have:keyI e=y:=by unfold keyI; rw [hy]
  rw [this]; exact ⟨hy,hf⟩
 have hinj:∀ a∈es.toList,∀ b∈es.toList,a.born=b.born→a=b:=fun a ha b hb hab=>by
  have:=hm.nd
  rw [List.nodup_iff_pairwise_ne,List.pairwise_map] at this
  obtain ⟨i,hi⟩:=List.mem_iff_getElem?.1 ha
  obtain ⟨j,hj⟩:=List.mem_iff_getElem?.1 hb
  obtain ⟨hi',ei⟩:=List.getElem?_eq_some_iff.1 hi
  obtain ⟨hj',ej⟩:=List.getElem?_eq_some_iff.1 hj
  rw [List.pairwise_iff_getElem] at this
  rcases Nat.lt_trichotomy i j with h | h | h
  ·exact absurd (by rw [ei,ej]; exact hab) (this i j hi' hj' h)
  ·subst h; rw [← ei,← ej]
  ·exact absurd (by rw [ei,ej]; exact hab.symm) (this j i hj' hi' h)
 refine ⟨?_,fun x=>⟨fun hx=>?_,fun hx=>?_⟩⟩
 ·rw [List.nodup_iff_pairwise_ne,List.pairwise_map] at h2 ⊢
  refine h2.imp_of_mem fun {a b} ha hb hne hk=>hne ?_
  have e1:=(hkey a (h1 a ha)).1
  have e2:=(hkey b (h1 b hb)).1
  rw [hk,← e2] at e1
  obtain ⟨i,hi⟩:=List.mem_iff_getElem?.1 (h1 a ha)
  obtain ⟨j,hj⟩:=List.mem_iff_getElem?.1 (h1 b hb)
  have:=Gt hm.apart hi hj e1
  subst this
  rw [hi] at hj; injection hj with hj; rw [hj]
 ·obtain ⟨e,he,rfl⟩:=List.mem_map.1 hx
  rw [(hkey e (h1 e he)).2]; rfl
 ·obtain ⟨v,hv⟩:=Option.isSome_iff_exists.1 hx
  obtain ⟨e,he,hk⟩:=hm.all x v hv
  obtain ⟨e',he',hb⟩:=List.mem_map.1 (h3 e he)
  have:=hinj e' (h1 e' he') e he hb
  subst this
  have e1:=(hkey e' he).1
  rw [hk] at e1
  injection e1 with _ e1
  exact List.mem_map.2 ⟨e',he',e1.symm⟩
theorem born_lt {es:Array MapEntry} {zs:List MapEntry} {e:MapEntry} (h1:∀ e∈zs,e∈es.toList) (h2:(zs.map (·.born)).Nodup) (he:e∈es.toList) (hn:e.born∉zs.map (·.born)):zs.length < es.size:=by
 have:=Ea (l:=e.born::zs.map (·.born)) (m:=es.toList.map (·.born)) (List.nodup_cons.2 ⟨hn,h2⟩) (fun y hy=>by
  rcases List.mem_cons.1 hy with rfl | hy
  ·exact List.mem_map.2 ⟨e,he,rfl⟩
  ·obtain ⟨z,hz,rfl⟩:=List.mem_map.1 hy
   exact List.mem_map.2 ⟨z,h1 z hz,rfl⟩)
 simp at this
 omega
theorem At.fld {w:World} {oa:Option Addr} {cs:List Value} {o:Nat} {v:Value} (h:At w oa cs) (hv:cs[o]? = some v):At w (oa.map (·.add o)) [v] :=
 h.sub (fun j u hu=>by
  cases j with
  | zero=>simp at hu; subst hu; simpa using hv
  | succ j=>simp at hu)
def kF (ks:List Int):Int→Option Value:=fun x=>if x∈ks then some (.bool true) else none
theorem kF_put (ks:List Int) (x:Int):Ft (kF ks) x (.bool true)=kF (ks++[x]):=by
 funext y
 unfold Ft kF
 by_cases h:y=x
 ·subst h; simp
 ·simp [h]
theorem kF_get (ks:List Int) (x:Int):(kF ks x).getD (.bool false)=.bool (decide (x∈ks)):=by
 unfold kF
 by_cases h:x∈ks <;> simp [h]
theorem kF_nil:kF []=fun _=>none:=by funext x; simp [kF]
theorem mem_compact {zs:List Int} {x:Int} (h:x∈Lib.compact zs):x∈zs:=by
 unfold Lib.compact Lib.compactUpTo at h
 obtain ⟨j,hj,rfl⟩:=List.mem_map.1 h
 have hj':=List.mem_range.1 (List.mem_filter.1 hj).1
 simp [hj']
theorem mdl0 {r:Nat} {es:Array MapEntry} {clock:Nat} {x y:Operand} {tt k e u:TypeId} {i:Int} {f:Int→Option Value} {l':Array MapEntry→Nat→List A9} (hx:Bw ρ x=some (mpV r)) (hy:Bw ρ y=some (.int .i64 i)) (ht:C.P.underlying tt=some (.map k e)) (hk:C.P.underlying k=some (.int .i64))
  (hu:∀ es' c',Upd l (mpE r es clock) (mpE r es' c') (l' es' c')) (h:MapI es clock f) (kk:∀ es' c',MapI es' c' (mdel f i)→KJ C K δ ρ (l' es' c') I) :
  KJ C (Ax C ops ⟨none,.call ⟨.builtin .delete,#[x,y],#[tt,u]⟩,t,p,af,none⟩ K Q) δ ρ l I:=by
 refine Gf rfl (by simp) fun a w ha hw=>?_
 obtain ⟨es',h1,h2⟩:=h.del ht hk (hw.own _ _ (hu es clock).mem) i (w:=w) (P:=C.P) (u:=u) (ty:=t)
 have:(execOp a.eval ⟨none,.call ⟨.builtin .delete,#[x,y],#[tt,u]⟩,t,p,af,none⟩).run C.P w=.ok (.value (.tuple #[])) { w with heap:=w.heap.setIfInBounds r (.map es' clock) }:=by
  simp [execOp,resolve,invoke,builtin,ha.ev hx,ha.ev hy,h1]
 rw [this,Oper.uponIn_value]
 exact kk es' clock h2 _ _ (ha.none _) (wsat_setObj hw (hu es' clock))
def delK (f:Int→Option Value) (ks:List Int):Int→Option Value:=fun x=>if x∈ks then none else f x
theorem delK_nil (f:Int→Option Value):delK f []=f:=by funext x; simp [delK]
theorem delK_del (f:Int→Option Value) (ks:List Int) (x:Int):mdel (delK f ks) x=delK f (ks++[x]):=by
 funext y
 unfold mdel delK
 by_cases h:y=x
 ·subst h; simp
 ·simp [h]
theorem keys_rest {es:Array MapEntry} {cl:Nat} {f:Int→Option Value} {zs:List MapEntry} {e:MapEntry} (hm:MapI es cl f) (h1:∀ e∈zs,e∈es.toList) (h2:(zs.map (·.born)).Nodup) (he:e∈es.toList) (hn:e.born∉zs.map (·.born)) :
  ∃ rest,KeysOf f (zs.map keyI++keyI e::rest):=by
 let rs:=es.toList.filter fun x=>decide (x.born∉zs.map (·.born)) && decide (x.born≠e.born)
 refine ⟨rs.map keyI,?_⟩
 have:=keys_all (zs:=zs++e::rs) hm ?_ ?_ ?_
 ·simpa using this
 ·intro x hx
  rcases List.mem_append.1 hx with hx | hx
  ·exact h1 x hx
  ·rcases List.mem_cons.1 hx with rfl | hx
   ·exact he
   ·exact (List.mem_filter.1 hx).1
 ·rw [List.map_append,List.map_cons,List.nodup_append]
  refine ⟨h2,List.nodup_cons.2 ⟨fun hc=>?_,?_⟩,fun a ha b hb hab=>?_⟩
  ·obtain ⟨x,hx,hxe⟩:=List.mem_map.1 hc
   have:=(List.mem_filter.1 hx).2
   simp [hxe] at this
  ·exact hm.nd.sublist (List.filter_sublist.map _)
  ·subst hab
   rcases List.mem_cons.1 hb with rfl | hb
   ·exact hn ha
   ·obtain ⟨x,hx,hxe⟩:=List.mem_map.1 hb
    have:=(List.mem_filter.1 hx).2
    simp only [Bool.and_eq_true,decide_eq_true_eq] at this
    exact this.1 (hxe ▸ ha)
 ·intro x hx
  by_cases h3:x.born∈zs.map (·.born)
  ·simp only [List.map_append,List.mem_append]; exact .inl h3
  ·by_cases h4:x.born=e.born
   ·simp [h4]
   ·simp only [List.map_append,List.mem_append,List.map_cons,List.mem_cons]
    exact .inr (.inr (List.mem_map.2 ⟨x,List.mem_filter.2 ⟨hx,by simp only [Bool.and_eq_true,decide_eq_true_eq]; exact ⟨h3,h4⟩⟩,rfl⟩))
def SrtOf (l:List (Int × Int)) (f:Int→Option Value):Prop:=l.Pairwise (fun a b=>a.1 < b.1)∧(fun x=>(l.lookup x).map (Value.int .i64))=f
abbrev rnds (C:Ctx) (c:Code) (Q:Exit→Act→World→Prop) (m:Nat):Act→World→Prop:=Code.roundsIn (wf C.ro) 0 C.P c Q m
theorem cj_rounds {c:Code} (m:Nat) (h:KJ C (rnds C c Q m) δ ρ l I):KJ C (cw C (.loop c) Q) δ ρ l I:=fun a w ha hw=>wpIn_loop_rounds m (h a w ha hw)
theorem cj_rsucc {c:Code} {m:Nat} (h:KJ C (cw C c (Exit.then (rnds C c Q m) Q)) δ ρ l I):KJ C (rnds C c Q (m+1)) δ ρ l I:=fun a w ha hw=>h a w ha hw
theorem Run.trans {σ β:Type} {T:σ→β→σ→Prop} {xs ys:List β} {a b c:σ} (h:Run T xs a b) (k:Run T ys b c):Run T (xs++ys) a c:=by
 induction h with
 | nil=>exact k
 | cons h _ ih=>exact .cons h (ih k)
abbrev lsE (r:Nat) (cur:List Value) (te:TypeId):A9:=some (r,.cells cur.toArray te (0,0))
theorem ldL {d r off n b:Nat} {x:Operand} {tt te:TypeId} {cur cs:List Value} (hd:Nat.blt d C.N=true) (hx:Bw ρ x=some (Bg r off)) (ht:Ty C.P tt true n b) (hm:lsE r cur te∈l) (hc:(cur.drop off).take n=cs) (hn:cs.length=n)
  (k:KJ C K δ ((d,.agg cs.toArray)::ρ) l I):KJ C (Ax C ops ⟨some d,.load tt x,t,p,af,none⟩ K Q) δ ρ l I :=
 Bm rfl rfl (by simp) hd (fun a w ha hw=>by
  have hr:=hw.own _ _ hm
  have:=G8 (P:=C.P) ht (a:=⟨r,off,none⟩) hn (w:=w) (fun j v hj=>by
   rw [Fk]
   refine E0 hr ?_
   rw [← hc,List.getElem?_take] at hj
   split at hj
   ·rw [List.getElem?_drop] at hj; exact hj
   ·cases hj)
  simp [execOp,Instr.loadAt,Instr.sureAddr,ha.ev hx,this]) k
theorem stL {r off n b:Nat} {x y:Operand} {tt te:TypeId} {cur cs:List Value} {l':List A9} (cur':List Value) (hx:Bw ρ x=some (Bg r off)) (hy:Bw ρ y=some (.agg cs.toArray)) (ht:Ty C.P tt true n b) (hn:cs.length=n) (h1:cs.all (·.oneCell')=true)
  (he:cur.take off++cs++cur.drop (off+n)=cur') (hle:off+n≤cur.length) (hu:Upd l (lsE r cur te) (lsE r cur' te) l') (k:KJ C K δ ρ l' I) :
  KJ C (Ax C ops ⟨none,.store tt x y,t,p,af,none⟩ K Q) δ ρ l I :=
 st_skipW rfl rfl (by simp) (fun a w ha hw=>by
  have:=G7 ht (v:=.agg cs.toArray) (cs:=cs) rfl hn (List.all_eq_true.1 h1) (Fo hw hu.mem) (off:=off) hle
  rw [he] at this
  exact ⟨w.setRow r cur'.toArray,by simp [execOp,Instr.storeAt,Instr.sureAddr,ha.ev hx,ha.ev hy,this],Em hw hu⟩) k
theorem clr {r off m c sz bytes:Nat} {x:Operand} {st e te:TypeId} {tys:Array TypeId} {cur:List Value} {l':List Value→List A9} (hx:Bw ρ x=some (.slice (some ⟨r,off,none⟩) m c)) (htys:tys[0]? = some st) (hT:ElTy C.P st e sz bytes)
  (hle:off+m*sz≤cur.length) (hu:∀ cur',Upd l (lsE r cur te) (lsE r cur' te) (l' cur')) (k:∀ zs:List Value,zs.length=m*sz→zs.all (·.oneCell')=true→KJ C K δ ρ (l' (cur.take off++zs++cur.drop (off+m*sz))) I) :
  KJ C (Ax C ops ⟨none,.call ⟨.builtin .clear,#[x],tys⟩,t,p,af,none⟩ K Q) δ ρ l I:=by
 refine Gf rfl (by simp) fun a w ha hw=>?_
 obtain ⟨i,z,hi,hz,hs,hb,hzs,hz1⟩:=hT.info
 have hr:=Fo hw (hu []).mem
 have hlen:(Builtin.zeroCells z.cells m).toList.length=m*sz:=by simp [Builtin.zeroCells,hzs]
 have hone:(Builtin.zeroCells z.cells m).toList.all (·.oneCell')=true:=by
  refine List.all_eq_true.2 fun v hv=>?_
  simp only [Builtin.zeroCells] at hv
  have:v∈z.cells.toList:=by
   simp only [Array.toList_map] at hv
   obtain ⟨i,_,rfl⟩:=List.mem_map.1 hv
   have hlt:i % z.cells.size < z.cells.size:=Nat.mod_lt _ (by have:=hT.pos; omega)
   rw [getElem!_pos z.cells _ hlt]
   simp
  have h2:=Array.all_eq_true'.1 hz1 v (by simpa using this)
  exact h2
 have hzero:(zeroValue e).run C.P w=.ok z w:=G6 (by simp [zeroB,hi,hz]) w
 by_cases hm:m=0
 ·subst hm
  have:(execOp a.eval ⟨none,.call ⟨.builtin .clear,#[x],tys⟩,t,p,af,none⟩).run C.P w=.ok (.value (.tuple #[])) w:=by
   simp [execOp,resolve,invoke,builtin,ha.ev hx,Builtin.clear_,htys,run_underlying hT.und,Result.andThen]
  rw [this,Oper.uponIn_value]
  have h0:=k [] (by simp) rfl
  simp only [List.append_nil,Nat.zero_mul,Nat.add_zero,List.take_append_drop] at h0
  exact h0 _ _ (ha.none _) (by
   have:=Em hw (hu cur)
   rwa [setRow_self w r cur.toArray te (0,0) hr] at this)
 ·have hst:=run_storeCells_at (P:=C.P) r off te (Builtin.zeroCells z.cells m).toList 0 cur.toArray w hr (by simpa [hlen] using hle) (List.all_eq_true.1 hone)
  simp only [Nat.add_zero,hlen] at hst
  have:(execOp a.eval ⟨none,.call ⟨.builtin .clear,#[x],tys⟩,t,p,af,none⟩).run C.P w=.ok (.value (.tuple #[])) (w.setRow r (cur.take off++(Builtin.zeroCells z.cells m).toList++cur.drop (off+m*sz)).toArray):=by
   cases m with
   | zero=>exact absurd rfl hm
   | succ m =>
    simp only [execOp,resolve,invoke,builtin,List.map_toArray,List.map_cons,List.map_nil,ha.ev hx,Builtin.clear_,htys,run_underlying hT.und,Result.andThen,Sem.run_bind,Sem.run_pure,hzero,hst]
    simp [run_underlying hT.und,Result.andThen,hzero,hst]
  rw [this,Oper.uponIn_value]
  exact k _ hlen hone _ _ (ha.none _) (Em hw (hu _))
theorem WSat.only {X M:Nat→Prop} {w0:World} {l:List A9} {I:World→Prop} {w w':World} (h:WSat X M w0 l I w) (he:Ext (fun _=>False) w w'):WSat X M w0 l I w':=by
 have hb:∀ b,b < w.heap.size→w'.heap[b]? = w.heap[b]?:=fun b hb=>he.block b hb (fun h=>h)
 refine ⟨h.lowX,?_,h.nodup,fun r o hm=>?_,h.ownX,h.ownM,h.fr.step he.size fun b hb' _=>hb b hb'⟩
 ·exact ⟨he.os.trans h.ext.os,he.tape.trans h.ext.tape,he.output.trans h.ext.output,Nat.le_trans h.ext.size he.size,fun b hb' hm=>(hb b (Nat.lt_of_lt_of_le hb' h.ext.size)).trans (h.ext.block b hb' hm)⟩
 ·have:=h.own r o hm
  rw [hb r (Du this)]; exact this
theorem callL {d:Nat} {f:FuncId} {g:Operand} {fs vs cs:List Value} {os:List Operand} {tys:Array TypeId} {I':World→Prop} {q:Prop} {v:Value} (lent:List A9) {lrest:List A9}
  (hd:Nat.blt d C.N=true) (hg:Bw ρ g=some (.func (.func f) fs.toArray cs.toArray)) (ha:Args ρ os vs) (hfn:Aq C.P f=true)
  (hl:l.Perm (lent++lrest)) (spec:Ay C.P f (fs++vs++cs) [] I' (fun _:Unit=>⟨q,v,[],fun _=>True⟩)) (hI:∀ w,(∀ r o,some (r,o)∈lent→w.heap[r]? = some o)→I w→I' w)
  (k:q→KJ C K δ ((d,v)::ρ) l I):KJ C (Ax C ops ⟨some d,.call ⟨.value g,os.toArray,tys⟩,t,p,af,none⟩ K Q) δ ρ l I:=by
 refine Gf rfl (by simp) fun a w hs hw=>?_
 have hm:=ha.map hs
 have hrun:(execOp a.eval ⟨some d,.call ⟨.value g,os.toArray,tys⟩,t,p,af,none⟩).run C.P w=.ok (.enter f (fs++vs++cs).toArray) w:=by
  simp [execOp,resolve,Deferred.ofValue,hs.ev hg,invoke,hm,Fa hfn]
 rw [hrun,Oper.uponIn_enter]
 refine ⟨fun h=>by simp [wf] at h,?_⟩
 have hw1:=hw.perm hl.symm
 have hk:=G1 lent lrest
 have hlent:∀ r o,some (r,o)∈lent→r∉keys lrest∧¬ C.X r:=fun r o hr=>by
  have hrk:r∈keys lent:=Jh.2 ⟨o,hr⟩
  refine ⟨fun h2=>?_,hw1.ownX r (by rw [hk]; exact List.mem_append_left _ hrk)⟩
  have:=hw1.nodup; rw [hk] at this
  exact (List.nodup_append.1 this).2.2 r hrk r h2 rfl
 have hfr:Ck (fun b=>C.X b∨b∈keys lrest) (fun w=>(∀ r o,some (r,o)∈lent→w.heap[r]? = some o)∧I w) w:=by
  refine Ck.and ?_ ?_
  ·have:∀ L:List A9,(∀ e∈L,e∈lent)→Ck (fun b=>C.X b∨b∈keys lrest) (fun w=>∀ r o,some (r,o)∈L→w.heap[r]? = some o) w:=by
    intro L
    induction L with
    | nil=>intro _; exact ⟨fun _=>False,fun _ h=>h.elim,fun w' _ r o h=>(List.not_mem_nil h).elim⟩
    | cons e L ih =>
     intro hL
     have h1:=ih fun e he=>hL e (.tail _ he)
     cases e with
     | none=>exact h1.mono fun w h r o hr=>h r o ((List.mem_cons.1 hr).resolve_left (by simp))
     | some pr =>
      obtain ⟨r0,o0⟩:=pr
      have hm0:=hL _ (.head _)
      have hb:=Ck.blk (X:=fun b=>C.X b∨b∈keys lrest) (hw1.own r0 o0 (List.mem_append_left _ hm0)) (fun h=>h.elim (hlent r0 o0 hm0).2 (hlent r0 o0 hm0).1)
      refine (hb.and h1).mono fun w h r o hr=>?_
      rcases List.mem_cons.1 hr with he | he
      ·cases he; exact h.1
      ·exact h.2 r o he
   exact this lent fun _ h=>h
  ·exact hw1.fr.weaken fun b _ hx=>by
    rw [hk,List.mem_append]
    rcases hx with hx | hx
    ·exact .inl hx
    ·exact .inr (.inr hx)
 have hsat:WSat (fun b=>C.X b∨b∈keys lrest) (·∈keys []) w [] I' w:=by
  refine ⟨?_,Ext.refl _ _,List.nodup_nil,fun r o h=>(List.not_mem_nil h).elim,fun r h=>(List.not_mem_nil h).elim,fun r h=>(List.not_mem_nil h).elim,?_⟩
  ·rintro b (hb | hb)
   ·exact Nat.lt_of_lt_of_le (hw.lowX b hb) hw.ext.size
   ·exact hw1.lt (by rw [hk]; exact List.mem_append_right _ hb)
  ·refine (hfr.mono fun w h=>hI w h.1 h.2).weaken fun b _ hx=>?_
   rcases hx with hx | hx
   ·exact hx
   ·exact (List.not_mem_nil hx).elim
 refine (Kr (spec _ w hsat)).mono ?_
 rintro e w' ⟨_,hq,rfl,hw'⟩
 exact k hq _ w' (hs.put hd _) (hw.only (hw'.ext.mono fun b _ h=>(List.not_mem_nil h).elim))
theorem run_eq_sl {P:Program} {w:World} {tt e:TypeId} (ht:P.underlying tt=some (.slice e)) (k:Nat) (a:Option Addr) (n c:Nat):(Op.equalIn (k+1) tt (.slice a n c) (.slice none 0 0)).run P w=.ok a.isNone w:=by
 cases a <;> simp [Op.equalIn,run_underlying ht,Result.andThen]
theorem eqns {d:Nat} {x y:Operand} {tt u:TypeId} {a:Option Addr} {n c:Nat} {e:TypeId} (hd:Nat.blt d C.N=true) (hx:Bw ρ x=some (.slice a n c)) (hy:Bw ρ y=some (.slice none 0 0)) (ht:C.P.underlying tt=some (.slice e)) (kk:KJ C K δ ((d,.bool a.isNone)::ρ) l I) :
  KJ C (Ax C ops ⟨some d,.binOp .eql tt x y u,t,p,af,none⟩ K Q) δ ρ l I :=
 Bm rfl rfl (by simp) hd (fun w' w ha _=>by
  have h:(Op.equalIn Op.maxDepth tt (.slice a n c) (.slice none 0 0)).run C.P w=.ok a.isNone w:=run_eq_sl ht 9999 a n c
  simp [execOp,eqGuard,binOp,ha.ev hx,ha.ev hy,Op.equal,h,Result.andThen]) kk
theorem eqb {d:Nat} {x y:Operand} {tt u:TypeId} {a b:Bool} (hd:Nat.blt d C.N=true) (hx:Bw ρ x=some (.bool a)) (hy:Bw ρ y=some (.bool b)) (ht:C.P.underlying tt=some .bool) (kk:KJ C K δ ((d,.bool (a == b))::ρ) l I) :
  KJ C (Ax C ops ⟨some d,.binOp .eql tt x y u,t,p,af,none⟩ K Q) δ ρ l I :=
 Bm rfl rfl (by simp) hd (fun w' w ha hw=>by
  have h:(Op.equalIn Op.maxDepth tt (.bool a) (.bool b)).run C.P w=.ok (a == b) w:=run_equalIn_bool w 9999 tt a b ht
  simp [execOp,eqGuard,binOp,ha.ev hx,ha.ev hy,Op.equal,h,Result.andThen]) kk
theorem neb {d:Nat} {x y:Operand} {tt u:TypeId} {a b:Bool} (hd:Nat.blt d C.N=true) (hx:Bw ρ x=some (.bool a)) (hy:Bw ρ y=some (.bool b)) (ht:C.P.underlying tt=some .bool) (kk:KJ C K δ ((d,.bool (a != b))::ρ) l I) :
  KJ C (Ax C ops ⟨some d,.binOp .neq tt x y u,t,p,af,none⟩ K Q) δ ρ l I :=
 Bm rfl rfl (by simp) hd (fun w' w ha hw=>by
  have h:(Op.equalIn Op.maxDepth tt (.bool a) (.bool b)).run C.P w=.ok (a == b) w:=run_equalIn_bool w 9999 tt a b ht
  simp [execOp,eqGuard,binOp,ha.ev hx,ha.ev hy,Op.equal,h,Result.andThen]; cases a <;> cases b <;> rfl) kk
end Go.Chx
