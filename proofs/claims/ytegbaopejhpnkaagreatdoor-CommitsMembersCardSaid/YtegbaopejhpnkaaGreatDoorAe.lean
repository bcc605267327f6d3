/- Part of the proof that the law CommitsMembers holds. -/
import Derived.Laws.IdiomStrings
import Derived.Maps.RangeRun
import Derived.Carry
import Derived.Test.YtegbaopejhpnkaaGreatDoorAa
import Derived.Test.YtegbaopejhpnkaaGreatDoorAd
namespace Go.Chx
open Go
variable {C:Ctx} {δ:List Deferred} {ρ:Da} {l:List A9} {I:World→Prop} {K:Act→World→Prop} {Q:Exit→Act→World→Prop} {ops:Array Oper}
variable {t:TypeId} {p:String} {af:Array Edge}
theorem Own.cut {e:TypeId} {sz n k cap:Nat} {a:Option Addr} {xs:List Value} {en:A9} (h:Own e sz (.slice a n cap) n xs en) (hk:k≤n):Own e sz (.slice a k cap) k (xs.take (k*sz)) en:=by
 generalize hv:Value.slice a n cap=v at h
 cases h with
 | nil =>
  cases hv
  have:k=0:=by omega
  subst this; simpa using Own.nil
 | row hc hm hl hx =>
  cases hv
  refine .row (by omega) hm hl ?_
  rw [← hx,List.take_take,Nat.min_eq_left (Nat.mul_le_mul_right _ hk)]
theorem apz {d m i sz bytes:Nat} {s x:Operand} {st u e:TypeId} {kk:IntKind} (hd:Nat.blt d C.N=true) (hv:Bw ρ s=some (.slice none 0 0)) (hx:Bw ρ x=some (.int .i64 (m:Int))) (hT:ElTy C.P st e sz bytes) (hu:C.P.underlying u=some (.int kk))
  (hen:l[i]? = some none) (h0:0 < m) (hb:m*bytes≤140737488355328) (h63:m≤maxLen)
  (k:∀ a cap xs en',Own e sz (.slice (some a) m cap) m xs en'→KJ C K δ ((d,.slice (some a) m cap)::ρ) (l.set i en') I) :
  KJ C (Ax C ops ⟨some d,.call ⟨.builtin .append,#[s,x],#[st,u]⟩,t,p,af,none⟩ K Q) δ ρ l I:=by
 refine Gf rfl (by simp) fun a w ha hw=>?_
 obtain ⟨inf,z,hi,hz,hsz,hby,hzs,hz1⟩:=hT.info
 subst hsz
 subst hby
 have hpos:=hT.pos
 have hsmall:m≤9223372036854775807:=by simp only [maxLen] at h63; omega
 have hge:=grownCap_ge w m 0 e
 have hcm:grownCap w m 0 e≤maxLen:=grownCap_le_maxLen w m 0 e h63
 have hset:∀ en',(l.set i en').Perm (en'::l.eraseIdx i):=fun en'=>by
  have hlt:i < l.length:=(List.getElem?_eq_some_iff.1 hen).1
  have h1:=Am i (l.set i en') en' (by rw [List.getElem?_set_self hlt])
  rwa [List.eraseIdx_set_eq] at h1
 have hw1:=hw.perm (Am i l none hen).symm
 let row:Array Value:=Builtin.zeroCells z.cells m++Builtin.zeroCells z.cells (grownCap w m 0 e-m)
 have hrun:(execOp a.eval ⟨some d,.call ⟨.builtin .append,#[s,x],#[st,u]⟩,t,p,af,none⟩).run C.P w=.ok (.value (.slice (some ⟨w.heap.size,0,none⟩) m (grownCap w m 0 e))) (w.drew.alloc (.cells row e)):=by
  have hwr:IntKind.i64.wrap (m:Int)=m:=Dr (by omega)
  have n1 : ¬ ((m:Int) < 0):=by omega
  have n2 : ¬ (281474976710656 < (m:Int)*(inf.bytes:Int)):=by
   have:((m*inf.bytes:Nat):Int)≤140737488355328:=by omega
   rw [Int.natCast_mul] at this; omega
  have n3 : ¬ (m=0):=by omega
  have n4 : ¬ (9223372036854775807 < (m:Int)):=by omega
  have n5 : ¬ (281474976710656 < Builtin.nextslicecap m 0*inf.bytes):=by rw [nextslicecap_zero h0]; omega
  have n6 : ¬ (m=0∨inf.size=0):=by omega
  simp [execOp,resolve,invoke,builtin,ha.ev hv,ha.ev hx,Builtin.append_,run_underlying hT.und,run_underlying hu,sizeOf,typeInfo,zeroValue,hi,hz,asInt,asIntOf,hwr,n1,n2,n3,n4,n5,n6,Question.forced,run_firstCells_none,newRow,row,grownCap,Nat.mul_eq_zero]
  intro h; omega
 rw [hrun,Oper.uponIn_value]
 have hown:Own e inf.size (.slice (some ⟨w.heap.size,0,none⟩) m (grownCap w m 0 e)) m (row.toList.take (m*inf.size)) (some (w.heap.size,.cells row.toList.toArray e (0,0))):=by
  refine .row hge hcm ?_ rfl
  simp only [row,Array.toList_append,List.length_append,zeroCells_len,hzs,← Nat.add_mul]
  congr 1; omega
 exact k _ _ _ _ hown _ _ (ha.put hd _) (WSat.perm (WSat.sub (l:=some (w.heap.size,_)::none::l.eraseIdx i) (hw1.push (w':=w.drew.alloc _) (by rw [Array.toArray_toList]; rfl) rfl rfl rfl) ((List.Sublist.refl _).cons _ |>.cons_cons _)) (hset _))
theorem Cx (k:KJ C K δ ρ (none::l) I):KJ C K δ ρ l I:=fun a w ha hw =>
 k a w ha ⟨hw.lowX,hw.ext,hw.nodup,fun r o hm=>hw.own r o (by cases hm with | tail _ h=>exact h),hw.ownX,hw.ownM,hw.fr⟩
theorem cvsb {d:Nat} {x:Operand} {src dst e:TypeId} {s:ByteArray} (hd:Nat.blt d C.N=true) (hx:Bw ρ x=some (.string s)) (hs:C.P.underlying src=some .string) (hdt:C.P.underlying dst=some (.slice e)) (he:C.P.underlying e=some (.int .u8))
  (k:∀ a cap,s.data.toList.length≤cap→KJ C K δ ((d,.slice (some a) s.data.toList.length cap)::ρ) l (fun w=>(Sl 1 s.data.toList.length (An s.data.toList) (.slice (some a) s.data.toList.length cap) w∧True)∧I w)) :
  KJ C (Ax C ops ⟨some d,.convert src dst x,t,p,af,none⟩ K Q) δ ρ l I:=by
 refine Gf rfl (by simp) fun a w ha hw=>?_
 have hr:=run_bytes_of_string (P:=C.P) w src dst e s hs hdt he
 have hrun:(execOp a.eval ⟨some d,.convert src dst x,t,p,af,none⟩).run C.P w=.ok (.value (.slice (some ⟨w.heap.size,0,none⟩) s.size (grownCap w s.size 0 e))) (w.drew.alloc (.cells (bytesRow s (grownCap w s.size 0 e)) e ((bytesRow s (grownCap w s.size 0 e)).size,(bytesRow s (grownCap w s.size 0 e)).size+1))):=by
  simp only [execOp,ha.ev hx,Sem.run_bind,hr,Result.andThen_ok,Sem.run_pure]
 rw [hrun,Oper.uponIn_value]
 have hlen:s.size=s.data.toList.length:=by simp
 have hge:=grownCap_ge w s.size 0 e
 have hp:=hw.push (w':=w.drew.alloc (.cells (bytesRow s (grownCap w s.size 0 e)) e ((bytesRow s (grownCap w s.size 0 e)).size,(bytesRow s (grownCap w s.size 0 e)).size+1))) (o:=.cells (bytesRow s (grownCap w s.size 0 e)) e ((bytesRow s (grownCap w s.size 0 e)).size,(bytesRow s (grownCap w s.size 0 e)).size+1)) rfl rfl rfl rfl
 have:=k ⟨w.heap.size,0,none⟩ (grownCap w s.size 0 e) (by omega)
 rw [← hlen] at this
 refine kj_pub (.refl _) (Ae (fun w' h=>⟨⟨(⟨_,_,rfl,hge,by simp [Br],Co _,.inr ⟨_,rfl,fun j v hv=>?_⟩⟩),trivial⟩,h.2⟩) this) _ _ (ha.put hd _) hp
 rw [Addr.add_lit]
 have hc:(bytesRow s (grownCap w s.size 0 e)).toList[0+j]? = some v:=by
  rw [Nat.zero_add]
  simp only [bytesRow,Array.toList_append,Array.toList_map]
  rw [List.getElem?_append_left (by
   have:=(List.getElem?_eq_some_iff.1 hv).1
   simpa [An] using this)]
  exact hv
 exact E0 (cs:=(bytesRow s (grownCap w s.size 0 e)).toList) (by rw [Array.toArray_toList]; exact h.1) hc
theorem Own.shape' {e:TypeId} {sz n:Nat} {v:Value} {xs:List Value} {en:A9} (h:Own e sz v n xs en):∃ a cap,v=.slice a n cap∧n≤cap:=by
 cases h with
 | nil=>exact ⟨none,0,rfl,Nat.le_refl _⟩
 | row hc=>exact ⟨_,_,rfl,hc⟩
def Parts (bss:List (List UInt8)) (vs:List Value) (w:World):Prop:=vs.length=bss.length∧∀ (i:Nat) (v:Value) (bs:List UInt8),vs[i]? = some v→bss[i]? = some bs→Sl 1 bs.length (An bs) v w
theorem caps {d:Nat} {x:Operand} {a:Option Addr} {n c:Nat} {e ty:TypeId} {tys:Array TypeId} (hd:Nat.blt d C.N=true) (hx:Bw ρ x=some (.slice a n c)) (ht:C.P.underlying ty=some (.slice e)) (htys:tys[0]? = some ty) (kk:KJ C K δ ((d,.int .i64 c)::ρ) l I) :
  KJ C (Ax C ops ⟨some d,.call ⟨.builtin .cap,#[x],tys⟩,t,p,af,none⟩ K Q) δ ρ l I :=
 Bm rfl rfl (by simp) hd (fun a w ha _=>by simp [execOp,resolve,invoke,builtin,Builtin.cap_,htys,run_underlying ht,ha.ev hx,goInt]) kk
theorem Gx {d:Nat} {tt:TypeId} {x:Operand} {s:Seg} (hd:Nat.blt d C.N=true) (hx:Bw ρ x=some (.agg s.cs.toArray))
  (k:∀ r,KJ C K δ ((d,Bg r 0)::ρ) (bx r [s] tt::l) I):KJ C (Ax C ops ⟨some d,.box tt x,t,p,af,none⟩ K Q) δ ρ l I:=by
 refine C6 hd ?_ k
 show _=some (Value.agg (flat [s]).toArray)
 rw [hx,Ib]
theorem bda {d len:Nat} {tt te:TypeId} {ps:List (Nat × Operand)} {ss zs:List Seg} {agg:Bool} {sz b:Nat} (hd:Nat.blt d C.N=true) (hu:C.P.underlying tt=some (.array len te)) (ht:Ty C.P te agg sz b) (hz:Jq C.P tt zs) (hb:Els ρ ps 0 ss)
  (hs:∀ s∈ss,s.n=sz) (hlen:ss.length=len) (hzl:Ke zs=len*sz)
  (k:KJ C K δ ((d,av ss)::ρ) l I):KJ C (Ax C ops ⟨some d,.build tt ps.toArray,t,p,af,none⟩ K Q) δ ρ l I :=
 Bm rfl rfl (by simp) hd (fun a w ha hw=>by
  obtain ⟨z,hz,hzc⟩:=hz
  have hzl':(flat zs).length=len*sz:=(He zs).trans hzl
  have key:Instr.fill (fun i=>some (i*sz,sz)) z.cells ((ps.toArray.map fun q=>(q.1,a.eval q.2)).toList)=some (flat ss).toArray:=by
   have:=fillEls ha (sz:=sz) (zero:=[]) hb hs [] (by simp) (flat zs) (by rw [hzl',hlen])
   simp only [List.nil_append] at this
   rw [hzc,← this]
   simp
  simp only [execOp,Instr.build,Sem.run_bind,G6 hz,run_underlying hu,ht.size,Result.andThen_ok,Sem.run_pure,key]) k
end Go.Chx
namespace Go.Chx
open Go
variable {C:Ctx} {δ:List Deferred} {ρ:Da} {l:List A9} {I:World→Prop} {K:Act→World→Prop} {Q:Exit→Act→World→Prop} {ops:Array Oper}
variable {t:TypeId} {p:String} {af:Array Edge}
theorem run_arr_eq {P:Program} {w:World} {d len b:Nat} {tt te:TypeId} {k k':IntKind} {xs ys:List Int} (ht:P.underlying tt=some (.array len te)) (he:P.underlying te=some (.int k')) (hy:Ty P te false 1 b) (hx:xs.length=len) (hyl:ys.length=len) :
  (Op.equalIn (d+2) tt (.agg (Av k xs).toArray) (.agg (Av k ys).toArray)).run P w=.ok (xs == ys) w:=by
 have elem:∀ (m n:Int),(Op.equalIn (d+1) te (.int k m) (.int k n)).run P w=.ok (m == n) w:=by
  intro m n
  simp [Op.equalIn,run_underlying he]
 have pt:∀ (zs:List Int) (i:Nat) (z:Int),zs[i]? = some z→(part te (Av k zs).toArray i).run P w=.ok (.int k z) w:=by
  intro zs i z hz
  simp [part,hy.isAgg,Av,hz]
 rw [show d+2=(d+1)+1 from rfl,Op.equalIn]
 generalize hE:Op.equalIn (d+1)=E at elem
 simp only [Sem.run_bind,run_underlying ht,Result.andThen_ok,hy.size,Nat.mul_one,Std.Legacy.Range.forIn_eq_forIn_range']
 have key:∀ (m i:Nat),i+m=len→(forIn (List.range' i m) ((none,()):Option Bool × Unit) fun i (__s:Option Bool × Unit)=>(do
      let a ← part te (Av k xs).toArray i
      let b ← part te (Av k ys).toArray i
      let r ← E te a b
      if (!r)=true then pure (ForInStep.done (some false,())) else pure (ForInStep.yield (none,())):Sem (ForInStep (Option Bool × Unit)))).run P w=.ok (if xs.drop i == ys.drop i then (none,()) else (some false,())) w:=by
  intro m
  induction m with
  | zero =>
   intro i hi
   rw [List.drop_of_length_le (by omega),List.drop_of_length_le (by omega)]
   simp
  | succ m ih =>
   intro i hi
   have h1:=pt xs i xs[i] (List.getElem?_eq_getElem (by omega))
   have h2:=pt ys i ys[i] (List.getElem?_eq_getElem (by omega))
   have e1:xs.drop i=xs[i]::xs.drop (i+1):=List.drop_eq_getElem_cons (by omega)
   have e2:ys.drop i=ys[i]::ys.drop (i+1):=List.drop_eq_getElem_cons (by omega)
   have ih:=ih (i+1) (by omega)
   simp only [List.range'_succ,List.forIn_cons,Sem.run_bind,h1,h2,elem,Result.andThen_ok,e1,e2]
   by_cases hv:xs[i]=ys[i]
   ·simp only [hv,beq_self_eq_true,Bool.not_true,Bool.false_eq_true,if_false,Sem.run_pure,Result.andThen_ok,ih,List.cons_beq_cons,Bool.true_and]
   ·have hb:(xs[i] == ys[i])=false:=by simpa using hv
    simp only [hb,Bool.not_false,if_true,Sem.run_pure,Result.andThen_ok,List.cons_beq_cons,Bool.false_and,Bool.false_eq_true,if_false]
 have:=key len 0 (by omega)
 have hsz:[:len].size=len:=by simp [Std.Legacy.Range.size]
 rw [hsz,this]
 simp only [List.drop_zero,Result.andThen_ok]
 cases h:(xs == ys) <;> simp [h]
theorem eqa {d len b:Nat} {x y:Operand} {tt te u:TypeId} {k k':IntKind} {xs ys:List Int} (hd:Nat.blt d C.N=true) (hx:Bw ρ x=some (.agg (Av k xs).toArray)) (hy:Bw ρ y=some (.agg (Av k ys).toArray)) (ht:C.P.underlying tt=some (.array len te)) (he:C.P.underlying te=some (.int k')) (hT:Ty C.P te false 1 b)
  (hg:C.P.eqGuardType C.P.depth tt=false) (h1:xs.length=len) (h2:ys.length=len)
  (kk:KJ C K δ ((d,.bool (xs == ys))::ρ) l I):KJ C (Ax C ops ⟨some d,.binOp .eql tt x y u,t,p,af,none⟩ K Q) δ ρ l I :=
 Bm rfl rfl (by simp) hd (fun a w ha _=>by
  have:=run_arr_eq (P:=C.P) (w:=w) (d:=9998) (k:=k) ht he hT h1 h2
  have hq:(Op.equal tt (.agg (Av k xs).toArray) (.agg (Av k ys).toArray)).run C.P w=.ok (xs == ys) w:=this
  simp [execOp,eqGuard,binOp,ha.ev hx,ha.ev hy,hg,hq]) kk
theorem nea {d len b:Nat} {x y:Operand} {tt te u:TypeId} {k k':IntKind} {xs ys:List Int} (hd:Nat.blt d C.N=true) (hx:Bw ρ x=some (.agg (Av k xs).toArray)) (hy:Bw ρ y=some (.agg (Av k ys).toArray)) (ht:C.P.underlying tt=some (.array len te)) (he:C.P.underlying te=some (.int k')) (hT:Ty C.P te false 1 b)
  (hg:C.P.eqGuardType C.P.depth tt=false) (h1:xs.length=len) (h2:ys.length=len)
  (kk:KJ C K δ ((d,.bool (!(xs == ys)))::ρ) l I):KJ C (Ax C ops ⟨some d,.binOp .neq tt x y u,t,p,af,none⟩ K Q) δ ρ l I :=
 Bm rfl rfl (by simp) hd (fun a w ha _=>by
  have:=run_arr_eq (P:=C.P) (w:=w) (d:=9998) (k:=k) ht he hT h1 h2
  have hq:(Op.equal tt (.agg (Av k xs).toArray) (.agg (Av k ys).toArray)).run C.P w=.ok (xs == ys) w:=this
  simp [execOp,eqGuard,binOp,ha.ev hx,ha.ev hy,hg,hq]) kk
theorem bdz {d:Nat} {tt:TypeId} {zs:List Seg} {ds:TypeDesc} (hd:Nat.blt d C.N=true) (hu:C.P.underlying tt=some ds) (hs:(match ds with | .struct fs=>fs.size≤0∨True | .array _ e=>∃ n b agg,Ty C.P e agg n b | _=>False)) (hz:Jq C.P tt zs)
  (hp:∀ fs,ds=.struct fs→∀ w,∃ pl,(fs.mapM fun f=>(do pure (f.offset,← sizeOf f.type):Sem (Nat × Nat))).run C.P w=.ok pl w)
  (k:KJ C K δ ((d,av zs)::ρ) l I):KJ C (Ax C ops ⟨some d,.build tt #[],t,p,af,none⟩ K Q) δ ρ l I :=
 Bm rfl rfl (by simp) hd (fun a w ha _=>by
  obtain ⟨z,hz,hzc⟩:=hz
  cases ds with
  | struct fs =>
   obtain ⟨pl,hpl⟩:=hp fs rfl w
   simp only [execOp,Instr.build,Sem.run_bind,G6 hz,run_underlying hu,Result.andThen_ok,hpl]
   simp [Instr.fill,hzc]
  | array n e =>
   obtain ⟨n',b,agg,hT⟩:=hs
   simp only [execOp,Instr.build,Sem.run_bind,G6 hz,run_underlying hu,Result.andThen_ok,hT.size]
   simp [Instr.fill,hzc]
  | _=>exact hs.elim) k
theorem bdzA {d len n b:Nat} {tt te:TypeId} {agg:Bool} {zs:List Seg} (hd:Nat.blt d C.N=true) (hu:C.P.underlying tt=some (.array len te)) (hT:Ty C.P te agg n b) (hz:Jq C.P tt zs)
  (k:KJ C K δ ((d,av zs)::ρ) l I):KJ C (Ax C ops ⟨some d,.build tt #[],t,p,af,none⟩ K Q) δ ρ l I :=
 bdz hd hu ⟨n,b,agg,hT⟩ hz (fun _ h=>by cases h) k
theorem D9 (bs:List UInt8):An bs=Av .u8 (bs.map fun b=>(b.toNat:Int)):=by simp [An,Av]
theorem dig_eq (a b:Dig):((a.b.map fun b=>(b.toNat:Int)) == (b.b.map fun b=>(b.toNat:Int)))=decide (a.b=b.b):=by
 have inj:∀ x y:List UInt8,(x.map fun b=>(b.toNat:Int))=(y.map fun b=>(b.toNat:Int))→x=y:=by
  intro x
  induction x with
  | nil=>intro y h; cases y with
   | nil=>rfl
   | cons _ _=>simp at h
  | cons u x ih=>intro y h; cases y with
   | nil=>simp at h
   | cons v y =>
    simp only [List.map_cons,List.cons.injEq] at h
    have h1:u.toNat=v.toNat:=by omega
    rw [UInt8.toNat_inj.1 h1,ih y h.2]
 by_cases h:a.b=b.b
 ·simp [h]
 ·have : ¬ (a.b.map fun b=>(b.toNat:Int))=(b.b.map fun b=>(b.toNat:Int)):=fun e=>h (inj _ _ e)
  simp [h,this]
theorem C3 {i:Nat} {o:Operand} {v:Value} {ps:List (Nat × Operand)} {ss:List Seg} (ho:Bw ρ o=some v) (h1:v.oneCell'=true) (h:Els ρ ps (i+1) ss):Els ρ ((i,o)::ps) i (S1 v h1::ss):=.one h1 ho h
theorem Ch {i:Nat} {o:Operand} {v:Value} {ps:List (Nat × Operand)} {cur cur' fin:List Seg} (ho:Bw ρ o=some v) (h1:v.oneCell'=true) (hs:SUpd cur i (S1 v h1) cur') (h:Bld ρ ps cur' fin):Bld ρ ((i,o)::ps) cur fin:=.one h1 ho hs h
end Go.Chx
namespace Go.Chx
open Go
variable {C:Ctx} {δ:List Deferred} {ρ:Da} {l:List A9} {I:World→Prop} {K:Act→World→Prop} {Q:Exit→Act→World→Prop} {ops:Array Oper}
variable {t:TypeId} {p:String} {af:Array Edge}
structure MapI (es:Array MapEntry) (clock:Nat) (f:Int→Option Value):Prop where
 lt:∀ e∈es.toList,e.born < clock
 nd:(es.toList.map (·.born)).Nodup
 apart:es.toList.Pairwise (fun x y=>x.key≠y.key)
 keys:∀ e∈es.toList,∃ x,e.key=.int .i64 x∧f x=some e.val
 all:∀ x v,f x=some v→∃ e∈es.toList,e.key=.int .i64 x
theorem MapI.nil:MapI #[] 0 (fun _=>none):=⟨by simp,by simp,by simp,by simp,by simp⟩
def Ft (f:Int→Option Value) (x:Int) (v:Value):Int→Option Value:=fun y=>if y=x then some v else f y
def mdel (f:Int→Option Value) (x:Int):Int→Option Value:=fun y=>if y=x then none else f y
theorem MapI.isKey {es:Array MapEntry} {clock:Nat} {f:Int→Option Value} (h:MapI es clock f):∀ e∈es.toList,MapKept.IsKey (.int .i64) e.key:=fun e he=>by
 obtain ⟨x,hx,_⟩:=h.keys e he
 rw [hx]; exact rfl
theorem MapI.find {es:Array MapEntry} {clock:Nat} {f:Int→Option Value} (h:MapI es clock f) (x:Int) :
  (Instr.findNow (.int .i64) (.int .i64 x) es.toList 0=some none∧f x=none∧∀ e∈es.toList,e.key≠.int .i64 x) ∨
  ∃ j e,Instr.findNow (.int .i64) (.int .i64 x) es.toList 0=some (some (j,e.val))∧es.toList[j]? = some e∧e.key=.int .i64 x∧f x=some e.val:=by
 rcases MapKept.findNow_spec (d:=.int .i64) (k:=.int .i64 x) rfl es.toList 0 h.isKey with ⟨h1,h2⟩ | ⟨j,e,h1,h2,h3⟩
 ·refine .inl ⟨h1,?_,h2⟩
  cases hf:f x with
  | none=>rfl
  | some v=>obtain ⟨e,he,hk⟩:=h.all x v hf; exact absurd hk (h2 e he)
 ·refine .inr ⟨j,e,by simpa using h1,h2,h3,?_⟩
  obtain ⟨y,hy,hf⟩:=h.keys e (List.mem_of_getElem? h2)
  rw [h3] at hy
  injection hy with _ hy
  rw [hy]; exact hf
theorem MapI.look {P:Program} {es:Array MapEntry} {clock:Nat} {f:Int→Option Value} (h:MapI es clock f) {tt k e:TypeId} {z:Value} {w:World} {r:Nat} (ht:P.underlying tt=some (.map k e)) (hk:P.underlying k=some (.int .i64)) (hz:zeroB P e=some z) (hb:w.heap[r]? = some (.map es clock)) (x:Int) (ok:Bool) :
  (Instr.lookup tt (.map (some r)) (.int .i64 x) ok).run P w=.ok (if ok then .tuple #[(f x).getD z,.bool (f x).isSome] else (f x).getD z) w:=by
 have hc:∀ em,(Instr.checkKey em 10000 k (.int .i64 x)).run P w=.ok () w:=fun em=>MapKept.run_checkKey hk (by exact rfl) em 9999
 rcases h.find x with ⟨h1,h2,_⟩ | ⟨j,e',h1,_,_,h2⟩
 ·simp [Instr.lookup,run_underlying ht,MapKept.run_getObj_map hb,hc,MapKept.run_findKey hk h1,G6 hz,h2,Result.andThen]
 ·simp [Instr.lookup,run_underlying ht,MapKept.run_getObj_map hb,hc,MapKept.run_findKey hk h1,h2,Result.andThen]
theorem Gt {es:List MapEntry} (h:es.Pairwise (fun x y=>x.key≠y.key)) {i j:Nat} {a b:MapEntry} (ha:es[i]? = some a) (hb:es[j]? = some b) (hk:a.key=b.key):i=j:=by
 rw [List.pairwise_iff_getElem] at h
 obtain ⟨hi,ea⟩:=List.getElem?_eq_some_iff.1 ha
 obtain ⟨hj,eb⟩:=List.getElem?_eq_some_iff.1 hb
 rcases Nat.lt_trichotomy i j with hlt | he | hlt
 ·exact absurd (by rw [ea,eb]; exact hk) (h i j hi hj hlt)
 ·exact he
 ·exact absurd (by rw [ea,eb]; exact hk.symm) (h j i hj hi hlt)
theorem MapI.put {P:Program} {es:Array MapEntry} {clock:Nat} {f:Int→Option Value} (h:MapI es clock f) {tt k e:TypeId} {w:World} {r:Nat} (ht:P.underlying tt=some (.map k e)) (hk:P.underlying k=some (.int .i64)) (hb:w.heap[r]? = some (.map es clock)) (x:Int) (v:Value) :
  ∃ es' clock',(Instr.mapUpdate tt (.map (some r)) (.int .i64 x) v).run P w=.ok () { w with heap:=w.heap.setIfInBounds r (.map es' clock') }∧MapI es' clock' (Ft f x v):=by
 have hc:∀ em,(Instr.checkKey em 10000 k (.int .i64 x)).run P w=.ok () w:=fun em=>MapKept.run_checkKey hk (by exact rfl) em 9999
 rcases h.find x with ⟨h1,h2,h3⟩ | ⟨j,e',h1,h2,h3,h4⟩
 ·refine ⟨es.push { key:=.int .i64 x,val:=v,born:=clock },clock+1,?_,?_⟩
  ·simp [Instr.mapUpdate,run_underlying ht,MapKept.run_getObj_map hb,hc,MapKept.run_findKey hk h1,MapKept.run_setObj_map _ hb,Result.andThen]
  ·refine ⟨?_,?_,?_,?_,?_⟩
   ·intro e he
    rw [Array.toList_push] at he
    rcases List.mem_append.1 he with he | he
    ·have:=h.lt e he; omega
    ·rw [List.mem_singleton.1 he]; exact Nat.lt_succ_self _
   ·rw [Array.toList_push,List.map_append,List.nodup_append]
    refine ⟨h.nd,by simp,fun a ha b hb'=>?_⟩
    obtain ⟨e,he,rfl⟩:=List.mem_map.1 ha
    simp at hb'
    have:=h.lt e he
    omega
   ·rw [Array.toList_push,List.pairwise_append]
    refine ⟨h.apart,by simp,fun a ha b hb'=>?_⟩
    rw [List.mem_singleton.1 hb']
    exact h3 a ha
   ·intro e he
    rw [Array.toList_push] at he
    rcases List.mem_append.1 he with he' | he'
    ·obtain ⟨y,hy,hf⟩:=h.keys e he'
     refine ⟨y,hy,?_⟩
     have hne:y≠x:=fun e1=>h3 e he' (by rw [hy,e1])
     simp [Ft,hne,hf]
    ·rw [List.mem_singleton.1 he']
     exact ⟨x,rfl,by simp [Ft]⟩
   ·intro y u hy
    rw [Array.toList_push]
    by_cases hyx:y=x
    ·subst hyx
     exact ⟨_,List.mem_append.2 (.inr (List.mem_singleton.2 rfl)),rfl⟩
    ·simp only [Ft,if_neg hyx] at hy
     obtain ⟨e,he,hk'⟩:=h.all y u hy
     exact ⟨e,List.mem_append.2 (.inl he),hk'⟩
 ·have hj:j < es.size:=by
   have:=(List.getElem?_eq_some_iff.1 h2).1
   simpa using this
  have hget:es[j]? = some e':=by rw [← Array.getElem?_toList]; exact h2
  have hmod:es.modify j (fun e=>{ e with key:=.int .i64 x,val:=v })=es.setIfInBounds j { e' with key:=.int .i64 x,val:=v }:=by
   apply Array.ext_getElem?
   intro i
   by_cases hi:j=i
   ·subst hi
    have hb':es[j].born=e'.born:=by
     rw [Array.getElem?_eq_getElem hj] at hget
     injection hget with hget
     rw [hget]
    rw [Array.getElem?_modify]
    simp [hget,hj,hb']
   ·rw [Array.getElem?_modify]
    simp [hi]
  refine ⟨es.setIfInBounds j { e' with key:=.int .i64 x,val:=v },clock,?_,?_⟩
  ·have hst:=MapKept.run_keyThatStays (P:=P) (w:=w) (d:=.int .i64) (k:=.int .i64 x) rfl
   have hkj:((es[j]?).map (·.key)).getD (.int .i64 x)=.int .i64 x:=by rw [hget]; exact h3
   simp only [Instr.mapUpdate,Sem.run_bind,run_underlying ht,MapKept.run_getObj_map hb,hc,MapKept.run_findKey hk h1,Result.andThen,hkj,hst,hmod]
   exact MapKept.run_setObj_map _ hb
  ·have hl:(es.setIfInBounds j { e' with key:=.int .i64 x,val:=v }).toList=es.toList.set j { e' with key:=.int .i64 x,val:=v }:=by simp
   have hmem:∀ e∈es.toList.set j { e' with key:=.int .i64 x,val:=v },e = { e' with key:=.int .i64 x,val:=v }∨∃ i,i≠j∧es.toList[i]? = some e:=by
    intro e he
    obtain ⟨i,hi⟩:=List.mem_iff_getElem?.1 he
    by_cases hij:j=i
    ·subst hij
     rw [List.getElem?_set_self (by simpa using hj)] at hi
     exact .inl (by injection hi with hi; exact hi.symm)
    ·rw [List.getElem?_set_ne hij] at hi
     exact .inr ⟨i,fun h=>hij h.symm,hi⟩
   refine ⟨?_,?_,?_,?_,?_⟩
   ·intro e he
    rw [hl] at he
    rcases hmem e he with rfl | ⟨i,_,hi⟩
    ·exact h.lt e' (List.mem_of_getElem? h2)
    ·exact h.lt e (List.mem_of_getElem? hi)
   ·rw [hl,List.map_set]
    have:(es.toList.map (·.born)).set j e'.born=es.toList.map (·.born):=by
     apply List.ext_getElem?
     intro i
     by_cases hij:j=i
     ·subst hij
      rw [List.getElem?_set_self (by simpa using hj),List.getElem?_map,h2]; rfl
     ·rw [List.getElem?_set_ne hij]
    rw [this]; exact h.nd
   ·rw [hl]
    have hp:=h.apart
    rw [← List.pairwise_map (f:=MapEntry.key) (R:=fun a b=>a≠b)] at hp ⊢
    rw [List.map_set]
    have:(es.toList.map (·.key)).set j (Value.int .i64 x)=es.toList.map (·.key):=by
     apply List.ext_getElem?
     intro i
     by_cases hij:j=i
     ·subst hij
      rw [List.getElem?_set_self (by simpa using hj),List.getElem?_map,h2]; simp [h3]
     ·rw [List.getElem?_set_ne hij]
    rw [this]; exact hp
   ·intro e he
    rw [hl] at he
    rcases hmem e he with rfl | ⟨i,hij,hi⟩
    ·exact ⟨x,rfl,by simp [Ft]⟩
    ·obtain ⟨y,hy,hf⟩:=h.keys e (List.mem_of_getElem? hi)
     refine ⟨y,hy,?_⟩
     have hne:y≠x:=fun e1=>hij (Gt h.apart hi h2 (by rw [hy,h3,e1]))
     simp [Ft,hne,hf]
   ·intro y u hy
    rw [hl]
    by_cases hyx:y=x
    ·subst hyx
     exact ⟨_,List.mem_of_getElem? (List.getElem?_set_self (by simpa using hj)),rfl⟩
    ·simp only [Ft,if_neg hyx] at hy
     obtain ⟨e,he,hk'⟩:=h.all y u hy
     obtain ⟨i,hi⟩:=List.mem_iff_getElem?.1 he
     have hij:j≠i:=fun e1=>by
      subst e1
      rw [h2] at hi
      injection hi with hi
      subst hi
      rw [h3] at hk'
      injection hk' with _ hk'
      exact hyx hk'.symm
     exact ⟨e,List.mem_of_getElem? (by rw [List.getElem?_set_ne hij]; exact hi),hk'⟩
theorem MapI.del {P:Program} {es:Array MapEntry} {clock:Nat} {f:Int→Option Value} (h:MapI es clock f) {tt k e u ty:TypeId} {w:World} {r:Nat} (ht:P.underlying tt=some (.map k e)) (hk:P.underlying k=some (.int .i64)) (hb:w.heap[r]? = some (.map es clock)) (x:Int) :
  ∃ es',(Builtin.delete_ #[tt,u] ty #[.map (some r),.int .i64 x]).run P w=.ok (.tuple #[]) { w with heap:=w.heap.setIfInBounds r (.map es' clock) }∧MapI es' clock (mdel f x):=by
 have hc:∀ em,(Instr.checkKey em 10000 k (.int .i64 x)).run P w=.ok () w:=fun em=>MapKept.run_checkKey hk (by exact rfl) em 9999
 rcases h.find x with ⟨h1,h2,h3⟩ | ⟨j,e',h1,h2,h3,h4⟩
 ·refine ⟨es,?_,?_⟩
  ·simp [Builtin.delete_,run_underlying ht,MapKept.run_getObj_map hb,hc,MapKept.run_findKey hk h1,MapKept.run_setObj_map _ hb,Result.andThen]
  ·have:mdel f x=f:=by
    funext y
    by_cases hy:y=x
    ·subst hy; simp [mdel,h2]
    ·simp [mdel,hy]
   rw [this]; exact h
 ·have hj:j < es.size:=by
   have:=(List.getElem?_eq_some_iff.1 h2).1
   simpa using this
  refine ⟨es.eraseIdxIfInBounds j,?_,?_⟩
  ·simp [Builtin.delete_,run_underlying ht,MapKept.run_getObj_map hb,hc,MapKept.run_findKey hk h1,MapKept.run_setObj_map _ hb,Result.andThen]
  ·have hl:(es.eraseIdxIfInBounds j).toList=es.toList.eraseIdx j:=by simp [Array.eraseIdxIfInBounds,hj]
   have hsub:(es.toList.eraseIdx j).Sublist es.toList:=List.eraseIdx_sublist _ _
   refine ⟨fun e he=>h.lt e (hsub.mem (hl ▸ he)),by rw [hl]; exact h.nd.sublist (hsub.map _),by rw [hl]; exact h.apart.sublist hsub,?_,?_⟩
   ·intro e he
    rw [hl,List.mem_eraseIdx_iff_getElem?] at he
    obtain ⟨i,hij,hi⟩:=he
    obtain ⟨y,hy,hf⟩:=h.keys e (List.mem_of_getElem? hi)
    have hne:y≠x:=fun e1=>hij (Gt h.apart hi h2 (by rw [hy,h3,e1]))
    exact ⟨y,hy,by simp [mdel,hne,hf]⟩
   ·intro y v hy
    by_cases hyx:y=x
    ·simp [mdel,hyx] at hy
    ·simp only [mdel,if_neg hyx] at hy
     obtain ⟨e,he,hk'⟩:=h.all y v hy
     obtain ⟨i,hi⟩:=List.mem_iff_getElem?.1 he
     refine ⟨e,?_,hk'⟩
     rw [hl,List.mem_eraseIdx_iff_getElem?]
     refine ⟨i,fun e1=>?_,hi⟩
     subst e1
     rw [h2] at hi
     injection hi with hi
     subst hi
     rw [h3] at hk'
     injection hk' with _ hk'
     exact hyx hk'.symm
abbrev mpE (r:Nat) (es:Array MapEntry) (clock:Nat):A9:=some (r,.map es clock)
abbrev mpV (r:Nat):Value:=.map (some r)
def MapF (r:Nat) (f:Int→Option Value) (w:World):Prop:=∃ es clock,w.heap[r]? = some (.map es clock)∧MapI es clock f
theorem mkm {d:Nat} {tt:TypeId} (hd:Nat.blt d C.N=true) (k:∀ r,KJ C K δ ((d,mpV r)::ρ) (mpE r #[] 0::l) I) :
  KJ C (Ax C ops ⟨some d,.makeMap tt none,t,p,af,none⟩ K Q) δ ρ l I :=
 Jw (v:=fun r=>mpV r) (ob:=.map #[] 0) rfl rfl (by simp) hd (fun a w ha hw=>by
  simp [execOp,Instr.makeMap,newObj,Sem.run]) k
theorem mlk {d r:Nat} {x y:Operand} {tt k e:TypeId} {z:Value} {i:Int} {f:Int→Option Value} (hd:Nat.blt d C.N=true) (hx:Bw ρ x=some (mpV r)) (hy:Bw ρ y=some (.int .i64 i)) (ht:C.P.underlying tt=some (.map k e)) (hk:C.P.underlying k=some (.int .i64)) (hz:zeroB C.P e=some z)
  (hf:∀ w,(∀ r o,some (r,o)∈l→w.heap[r]? = some o)→I w→MapF r f w) (kk:KJ C K δ ((d,(f i).getD z)::ρ) l I) :
  KJ C (Ax C ops ⟨some d,.lookup tt x y false,t,p,af,none⟩ K Q) δ ρ l I :=
 Bm rfl rfl (by simp) hd (fun a w ha hw=>by
  obtain ⟨es,clock,hb,h⟩:=hf w hw.own hw.fr.holds
  simp [execOp,ha.ev hx,ha.ev hy,h.look ht hk hz hb i false]) kk
theorem mlo {d r:Nat} {x y:Operand} {tt k e:TypeId} {z:Value} {i:Int} {f:Int→Option Value} (hd:Nat.blt d C.N=true) (hx:Bw ρ x=some (mpV r)) (hy:Bw ρ y=some (.int .i64 i)) (ht:C.P.underlying tt=some (.map k e)) (hk:C.P.underlying k=some (.int .i64)) (hz:zeroB C.P e=some z)
  (hf:∀ w,(∀ r o,some (r,o)∈l→w.heap[r]? = some o)→I w→MapF r f w) (kk:KJ C K δ ((d,.tuple #[(f i).getD z,.bool (f i).isSome])::ρ) l I) :
  KJ C (Ax C ops ⟨some d,.lookup tt x y true,t,p,af,none⟩ K Q) δ ρ l I :=
 Bm rfl rfl (by simp) hd (fun a w ha hw=>by
  obtain ⟨es,clock,hb,h⟩:=hf w hw.own hw.fr.holds
  simp [execOp,ha.ev hx,ha.ev hy,h.look ht hk hz hb i true]) kk
theorem wsat_setObj {w:World} {r:Nat} {o o':Obj} {l':List A9} (h:WSat C.X C.M C.w0 l I w) (hu:Upd l (some (r,o)) (some (r,o')) l'):WSat C.X C.M C.w0 l' I { w with heap:=w.heap.setIfInBounds r o' }:=by
 have hlt:=Du (h.own r o hu.mem)
 exact h.upd hu (by simp) (by simp [hlt]) (fun b hb=>by simp [Ne.symm hb]) rfl rfl rfl
theorem mup {r:Nat} {es:Array MapEntry} {clock:Nat} {x y z:Operand} {v:Value} {tt k e:TypeId} {i:Int} {f:Int→Option Value} {l':Array MapEntry→Nat→List A9} (hx:Bw ρ x=some (mpV r)) (hy:Bw ρ y=some (.int .i64 i)) (hv:Bw ρ z=some v) (ht:C.P.underlying tt=some (.map k e)) (hk:C.P.underlying k=some (.int .i64))
  (hu:∀ es' c',Upd l (mpE r es clock) (mpE r es' c') (l' es' c')) (h:MapI es clock f) (kk:∀ es' c',MapI es' c' (Ft f i v)→KJ C K δ ρ (l' es' c') I) :
  KJ C (Ax C ops ⟨none,.mapUpdate tt x y z,t,p,af,none⟩ K Q) δ ρ l I:=by
 refine Gf rfl (by simp) fun a w ha hw=>?_
 obtain ⟨es',c',h1,h2⟩:=h.put ht hk (hw.own _ _ (hu es clock).mem) i v (w:=w) (P:=C.P)
 have:(execOp a.eval ⟨none,.mapUpdate tt x y z,t,p,af,none⟩).run C.P w=.ok .skip { w with heap:=w.heap.setIfInBounds r (.map es' c') }:=by
  simp [execOp,ha.ev hx,ha.ev hy,ha.ev hv,h1]
 rw [this,Oper.uponIn_skip]
 exact kk es' c' h2 _ _ (ha.none _) (wsat_setObj hw (hu es' c'))
end Go.Chx
namespace Go.Chx
open Go
variable {C:Ctx} {δ:List Deferred} {ρ:Da} {l:List A9} {I:World→Prop} {K:Act→World→Prop} {Q:Exit→Act→World→Prop} {ops:Array Oper}
variable {t:TypeId} {p:String} {af:Array Edge}
abbrev Iq (s:List UInt8):ByteArray:=⟨s.toArray⟩
theorem bst_size (s:List UInt8):(Iq s).size=s.length:=by simp [ByteArray.size]
theorem cvbs {d n cap:Nat} {a:Option Addr} {x:Operand} {src dst e:TypeId} {bs:List UInt8} (hd:Nat.blt d C.N=true) (hx:Bw ρ x=some (.slice a n cap)) (hs:C.P.underlying src=some (.slice e)) (hdt:C.P.underlying dst=some .string) (he:C.P.underlying e=some (.int .u8))
  (hI:∀ w,(∀ r o,some (r,o)∈l→w.heap[r]? = some o)→I w→Sl 1 n (An bs) (.slice a n cap) w) (kk:KJ C K δ ((d,.string (Iq bs))::ρ) l I) :
  KJ C (Ax C ops ⟨some d,.convert src dst x,t,p,af,none⟩ K Q) δ ρ l I :=
 Bm rfl rfl (by simp) hd (fun a' w ha hw=>by
  obtain ⟨b,cap',e1,h2,h3,h4,h5⟩:=hI w hw.own hw.fr.holds
  cases e1
  have hn:n=bs.length:=by simpa [Br] using h3.symm
  subst hn
  have:(convert src dst (.slice a bs.length cap)).run C.P w=.ok (.string (Iq bs)) w:=by
   cases a with
   | none =>
    have h0:bs=[]:=by
     rcases h5 with h5 | h5
     ·exact List.eq_nil_of_length_eq_zero h5
     ·obtain ⟨_,h,_⟩:=h5; cases h
    subst h0
    exact run_convert_bytes_nil w src e hs he _ _ dst hdt
   | some b =>
    refine run_convert_bytes_back w src dst e b cap bs hs he hdt fun j hj=>?_
    obtain ⟨b',hb',hc⟩:=h5.resolve_left (by omega)
    cases hb'
    exact hc j _ (by simp [An,hj])
  simp [execOp,ha.ev hx,this]) kk
theorem max2i {d:Nat} {x y:Operand} {m n:Int} {tys:Array TypeId} (hd:Nat.blt d C.N=true) (hx:Bw ρ x=some (.int .i64 m)) (hy:Bw ρ y=some (.int .i64 n)) (kk:KJ C K δ ((d,.int .i64 (if n > m then n else m))::ρ) l I) :
  KJ C (Ax C ops ⟨some d,.call ⟨.builtin .max,#[x,y],tys⟩,t,p,af,none⟩ K Q) δ ρ l I :=
 Bm rfl rfl (by simp) hd (fun a w ha _=>by simp [execOp,resolve,invoke,builtin,Builtin.max_,Builtin.max2,ha.ev hx,ha.ev hy,Result.andThen]) kk
theorem or128 {m:Nat} (h:m < 256):bits .or .u8 (m:Int) 128=((m % 128+128:Nat):Int):=by
 have:(List.range 256).all (fun m=>bits .or .u8 (m:Int) 128 == ((m % 128+128:Nat):Int))=true:=by kernel_rfl
 have:=List.all_eq_true.1 this m (List.mem_range.2 h)
 simpa using this
def zz (n:Int):Nat:=if 0≤n then (2*n).toNat else (-2*n-1).toNat
theorem zz_lt {n:Int} (h : -9223372036854775808≤n∧n≤9223372036854775807):zz n < 18446744073709551616:=by
 unfold zz; split <;> omega
theorem xor_zz {n:Int} (h : -9223372036854775808≤n∧n≤9223372036854775807) :
  bits .xor .u64 (IntKind.wrap .u64 (IntKind.wrap .u64 n*2 ^ (1:Int).toNat)) (IntKind.wrap .u64 (n / 2 ^ (63:Int).toNat))=(zz n:Int):=by
 have e1:IntKind.wrap .u64 (IntKind.wrap .u64 n*2 ^ (1:Int).toNat)=(2*n) % 18446744073709551616:=by
  rw [E9,E9]
  have:((1:Int).toNat)=1:=rfl
  rw [this]; omega
 rw [e1]
 by_cases h0:0≤n
 ·have e2:n / 2 ^ (63:Int).toNat=0:=by
   have:((63:Int).toNat)=63:=rfl
   rw [this]; omega
  have e3:(2*n) % 18446744073709551616=((2*n).toNat:Int):=by omega
  have hz:zz n=(2*n).toNat:=by unfold zz; rw [if_pos h0]
  rw [e2,e3,hz]
  show IntKind.wrap .u64 ((BitVec.ofInt 64 ((2*n).toNat:Int) ^^^ BitVec.ofInt 64 (IntKind.wrap .u64 0)).toNat:Int)=_
  have e4:IntKind.wrap .u64 0=0:=by decide
  have e5:BitVec.ofInt 64 ((2*n).toNat:Int)=BitVec.ofNat 64 (2*n).toNat:=BitVec.ofInt_natCast _ _
  rw [e4,e5]
  have e6:BitVec.ofInt 64 0=0#64:=by decide
  rw [e6,BitVec.xor_zero,BitVec.toNat_ofNat,Nat.mod_eq_of_lt (by omega),C4 (by omega)]
 ·have e2:n / 2 ^ (63:Int).toNat = -1:=by
   have:((63:Int).toNat)=63:=rfl
   rw [this]; omega
  have e3:(2*n) % 18446744073709551616=(((2*n+18446744073709551616)).toNat:Int):=by omega
  have hz:zz n=(-2*n-1).toNat:=by unfold zz; rw [if_neg h0]
  rw [e2,e3,hz]
  show IntKind.wrap .u64 ((BitVec.ofInt 64 ((2*n+18446744073709551616).toNat:Int) ^^^ BitVec.ofInt 64 (IntKind.wrap .u64 (-1))).toNat:Int)=_
  have e5:BitVec.ofInt 64 ((2*n+18446744073709551616).toNat:Int)=BitVec.ofNat 64 (2*n+18446744073709551616).toNat:=BitVec.ofInt_natCast _ _
  rw [e5]
  have e6:BitVec.ofInt 64 (IntKind.wrap .u64 (-1))=BitVec.allOnes 64:=by decide
  rw [e6,BitVec.xor_allOnes,BitVec.toNat_not,BitVec.toNat_ofNat,Nat.mod_eq_of_lt (by omega),C4 (by omega)]
  omega
inductive Val where
 | int (n:Int)
 | text (s:List UInt8)
 | list (l:List Val)
mutual
def Val.dep:Val→Nat
 | .int _=>0
 | .text _=>0
 | .list l=>Gc l+1
def Gc:List Val→Nat
 | []=>0
 | v::l=>max v.dep (Gc l)
end
def Dx (u:Nat):List UInt8:=if u < 128 then [UInt8.ofNat u] else UInt8.ofNat (u % 128+128)::Dx (u / 128)
decreasing_by omega
mutual
def enc:Val→List UInt8
 | .int n=>1::Dx (zz n)
 | .text s=>2::(Dx s.length++s)
 | .list l=>3::(Dx l.length++E8 l)
def E8:List Val→List UInt8
 | []=>[]
 | v::l=>enc v++E8 l
end
mutual
def Val.ok:Val→Prop
 | .int n=>-9223372036854775808≤n∧n≤9223372036854775807
 | .text s=>s.length≤140737488355328
 | .list l=>l.length≤140737488355328∧okL l
def okL:List Val→Prop
 | []=>True
 | v::l=>v.ok∧okL l
end
inductive RV where
 | int (n:Int) (a:Option Addr) (cap:Nat)
 | text (s:List UInt8) (a:Option Addr) (cap:Nat)
 | list (l:List RV) (a:Option Addr) (cap:Nat)
mutual
def RV.val:RV→Val
 | .int n _ _=>.int n
 | .text s _ _=>.text s
 | .list l _ _=>.list (vals l)
def vals:List RV→List Val
 | []=>[]
 | v::l=>v.val::vals l
end
theorem Cz (l:List RV):vals l=l.map RV.val:=by
 induction l with
 | nil=>rfl
 | cons v l ih=>simp only [vals,ih,List.map_cons]
def RV.kd:RV→Int
 | .int ..=>1
 | .text ..=>2
 | .list ..=>3
def RV.nn:RV→Int
 | .int n _ _=>n
 | _=>0
def RV.ss:RV→List UInt8
 | .text s _ _=>s
 | _=>[]
def RV.ll:RV→List RV
 | .list l _ _=>l
 | _=>[]
def RV.ad:RV→Option Addr
 | .int _ a _=>a
 | .text _ a _=>a
 | .list _ a _=>a
def RV.cp:RV→Nat
 | .int _ _ c=>c
 | .text _ _ c=>c
 | .list _ _ c=>c
abbrev RV.cells (v:RV):List Value:=[.int .i64 v.kd,.int .i64 v.nn,.string (Iq v.ss),.slice v.ad v.ll.length v.cp]
mutual
def Cw:RV→World→Prop
 | .int ..,_=>True
 | .text ..,_=>True
 | .list l a cap,w=>Sl 4 l.length (l.flatMap RV.cells) (.slice a l.length cap) w∧Bo l w
def Bo:List RV→World→Prop
 | [],_=>True
 | v::l,w=>Cw v w∧Bo l w
end
theorem Be {sz:Nat} {a:Option Addr} {cap:Nat} {w:World}:Sl sz 0 [] (.slice a 0 cap) w:=⟨a,cap,rfl,Nat.zero_le _,by simp,by simp,.inl rfl⟩
theorem Bo.get {l:List RV}:∀ {w:World},Bo l w→∀ {i:Nat} {v:RV},l[i]? = some v→Cw v w:=by
 induction l with
 | nil=>intro w h i v hv; simp at hv
 | cons u l ih =>
  intro w h i v hv
  simp only [Bo] at h
  cases i with
  | zero=>simp at hv; subst hv; exact h.1
  | succ i=>simp at hv; exact ih h.2 hv
theorem Bo.app {l m:List RV} {w:World} (h:Bo l w) (k:Bo m w):Bo (l++m) w:=by
 induction l with
 | nil=>exact k
 | cons u l ih =>
  simp only [Bo] at h
  simp only [List.cons_append,Bo]
  exact ⟨h.1,ih h.2⟩
theorem Bo.one {v:RV} {w:World} (h:Cw v w):Bo [v] w:=by simp only [Bo]; exact ⟨h,trivial⟩
theorem Bo.of {l:List RV} {w:World} (h:∀ v∈l,Cw v w):Bo l w:=by
 induction l with
 | nil=>trivial
 | cons u l ih=>simp only [Bo]; exact ⟨h u (.head _),ih fun v hv=>h v (.tail _ hv)⟩
theorem Bo.mem {l:List RV} {w:World} (h:Bo l w):∀ v∈l,Cw v w:=fun v hv=>by
 obtain ⟨i,hi⟩:=List.mem_iff_getElem?.1 hv
 exact h.get hi
theorem fm_elem {α:Type} {f:α→List Value} {n:Nat} (hf:∀ x,(f x).length=n):∀ {xs:List α} {i:Nat} {x:α},xs[i]? = some x→((xs.flatMap f).drop (i*n)).take n=f x:=by
 intro xs
 induction xs with
 | nil=>intro i x h; simp at h
 | cons y xs ih =>
  intro i x h
  rw [List.flatMap_cons]
  cases i with
  | zero =>
   simp at h; subst h
   rw [Nat.zero_mul,List.drop_zero,← hf y,List.take_left]
  | succ i =>
   simp at h
   have h1:(i+1)*n=(f y).length+i*n:=by rw [hf y,Nat.succ_mul,Nat.add_comm]
   rw [h1,← List.drop_drop,List.drop_left]
   exact ih h
theorem Il {α:Type} {f:α→List Value} {n:Nat} (hf:∀ x,(f x).length=n) (xs:List α):(xs.flatMap f).length=xs.length*n:=by
 induction xs with
 | nil=>simp
 | cons y xs ih=>rw [List.flatMap_cons,List.length_append,ih,hf,List.length_cons,Nat.succ_mul,Nat.add_comm]
theorem Cv {α:Type} {f:α→List Value} {sz n cap i:Nat} {a:Option Addr} {xs:List α} {x:α} {w:World} (h:Sl sz n (xs.flatMap f) (.slice a n cap) w) (h0:0 < sz) (hf:∀ x,(f x).length=sz) (hx:xs[i]? = some x):At w (a.map (·.add (i*sz))) (f x):=by
 obtain ⟨_,_,e,_,h3,_⟩:=id h
 have hi:i < xs.length:=(List.getElem?_eq_some_iff.1 hx).1
 rw [Il hf] at h3
 have hn:n=xs.length:=(Nat.eq_of_mul_eq_mul_right h0 h3).symm
 have:=h.elem (i:=i) (by rw [hn]; exact hi)
 rwa [fm_elem hf hx] at this
theorem okL_mem {l:List Val} (h:okL l):∀ v∈l,v.ok:=by
 induction l with
 | nil=>simp
 | cons u l ih =>
  simp only [okL] at h
  intro v hv
  rcases List.mem_cons.1 hv with rfl | hv
  ·exact h.1
  ·exact ih h.2 v hv
theorem depL_mem {l:List Val}:∀ v∈l,v.dep≤Gc l:=by
 induction l with
 | nil=>simp
 | cons u l ih =>
  intro v hv
  simp only [Gc]
  rcases List.mem_cons.1 hv with rfl | hv
  ·omega
  ·have:=ih v hv; omega
theorem depL_snoc {l:List Val} {v:Val}:Gc (l++[v])=max (Gc l) v.dep:=by
 induction l with
 | nil=>simp [Gc]
 | cons u l ih=>simp only [List.cons_append,Gc,ih]; omega
theorem encL_app (l m:List Val):E8 (l++m)=E8 l++E8 m:=by
 induction l with
 | nil=>simp [E8]
 | cons u l ih=>simp only [List.cons_append,E8,ih,List.append_assoc]
theorem RV.rec' {p:RV→Prop} (hi:∀ n a c,p (.int n a c)) (ht:∀ s a c,p (.text s a c)) (hl:∀ l a c,(∀ v∈l,p v)→p (.list l a c)):∀ v,p v
 | .int n a c=>hi n a c
 | .text s a c=>ht s a c
 | .list l a c=>hl l a c fun v _=>RV.rec' hi ht hl v
theorem take_vals {l:List RV} {i:Nat} {x:RV} (h:l[i]? = some x):vals (l.take (i+1))=vals (l.take i)++[x.val]:=by
 rw [Cz,Cz,List.take_add_one,h]; simp
theorem vals_len (l:List RV):(vals l).length=l.length:=by rw [Cz,List.length_map]
end Go.Chx
