/- Part of the proof that the law CommitsMembers holds. -/
import Derived.Test.YtegbaopejhpnkaaGreatDoorRows
import Derived.ProofKit
import Derived.LaidMore
import Derived.Stop.Joined
import Derived.Lib.LaidTab
import Derived.Test.YtegbaopejhpnkaaGreatDoorAa
import Derived.Test.YtegbaopejhpnkaaGreatDoorBi
namespace Go.Chx
open Go Go.Proofs Go.ChangeShapes Go.WideShapes Go.ChangeAt Go.RowKit Go.Proofs.YtegbaopejhpnkaaGreatDoor
set_option maxHeartbeats 1000000
set_option maxRecDepth 100000
theorem own:ownKnob Tryz.prog.godebug=none:=by kernel_rfl
theorem laidOut:laidOutB Tryz.prog=true:=by kernel_rfl
theorem gStart:Tryz.prog.globalNamed "chartroom/digest.start" = some 1:=by kernel_rfl
theorem gNum:Tryz.prog.globalNamed "chartroom/digest.numbers" = some 3:=by kernel_rfl
theorem gConst:Tryz.prog.globalNamed "chartroom/cipher.constants" = some 6:=by kernel_rfl
theorem gLab:Tryz.prog.globalNamed "chartroom/schedule.labels" = some 0:=by kernel_rfl
abbrev laid5:List (String × DataW Unit):=[("chartroom/digest.start", Rows.laid_chartroom_digest_start),("chartroom/digest.numbers", Rows.laid_chartroom_digest_numbers),("bytes.ErrTooLarge", Rows.laid_bytes_ErrTooLarge),("chartroom/cipher.constants", Rows.laid_chartroom_cipher_constants),("chartroom/schedule.labels", Rows.laid_chartroom_schedule_labels)]
theorem tStart:(Tryz.prog.globals[1]?).map (·.type)=some 292:=by kernel_rfl
theorem tNum:(Tryz.prog.globals[3]?).map (·.type)=some 321:=by kernel_rfl
theorem tConst:(Tryz.prog.globals[6]?).map (·.type)=some 347:=by kernel_rfl
theorem tLab:(Tryz.prog.globals[0]?).map (·.type)=some 243:=by kernel_rfl
theorem laid_at {w:World}:∀ {laid:List (String × DataW Unit)} {ps:List MemPlace},DataW.LaidVars Tryz.prog w laid ps→∀ {n:String} {d:DataW Unit},(n,d)∈laid →
  ∃ g t cs fuel p,Tryz.prog.globalNamed n=some g∧(Tryz.prog.globals[g]?).map (·.type)=some t∧w.var? Tryz.prog n=some cs∧DataW.trod (fun _=>()) Tryz.prog w 0 (fun _=>true) false fuel t cs.toList=some (d,p)
 | [],_,_,_,_,h=>(List.not_mem_nil h).elim
 | (n,d)::r,_,⟨g,t,cs,fuel,p,q,h1,h2,h3,h4,h5,_⟩,n',d',h=>by
  rcases List.mem_cons.1 h with e | e
  ·cases e; exact ⟨g,t,cs,fuel,p,h1,h2,h3,h4⟩
  ·exact laid_at h5 e
theorem glo_of {w:World} {n:String} {g:Nat} {cs:Array Value} (hg:Tryz.prog.globalNamed n=some g) (h:w.var? Tryz.prog n=some cs):De g cs.toList w:=by
 refine ⟨⟨g,0,none⟩,Z,fun j v hv=>?_⟩
 rw [Fk,Nat.zero_add,World.var?_cell hg h j]
 simpa using hv
theorem glo_tab {w:World} {laid:List (String × DataW Unit)} {ps:List MemPlace} (hl:DataW.LaidVars Tryz.prog w laid ps) {n:String} {g t e len:Nat} {k:IntKind} {zs:List Int} (hm:(n,Lib.tabData k zs)∈laid) (hg:Tryz.prog.globalNamed n=some g) (ht:(Tryz.prog.globals[g]?).map (·.type)=some t)
  (hu:Tryz.prog.underlying t=some (.array len e)) (he:Tryz.prog.underlying e=some (.int k)) (hc:Tryz.prog.cellsOf e=1) (hct:Tryz.prog.cellsOf t=len):De g (Av k zs) w:=by
 obtain ⟨g',t',cs,fuel,p,h1,h2,h3,h4⟩:=laid_at hl hm
 obtain rfl:=Option.some.inj (hg.symm.trans h1)
 obtain rfl:=Option.some.inj (ht.symm.trans h2)
 have:=Lib.cells_of_tab hu he hc hct h4
 have h5:=glo_of hg h3
 rw [this] at h5
 exact h5
theorem glo_labs {w:World} {laid:List (String × DataW Unit)} {ps:List MemPlace} (hl:DataW.LaidVars Tryz.prog w laid ps) (hm:("chartroom/schedule.labels", Rows.laid_chartroom_schedule_labels)∈laid):De 0 (labs.map fun s=>.string (Iq s)) w:=by
 obtain ⟨g',t',cs,fuel,p,h1,h2,h3,h4⟩:=laid_at hl hm
 obtain rfl:=Option.some.inj (gLab.symm.trans h1)
 obtain rfl:=Option.some.inj (tLab.symm.trans h2)
 obtain ⟨xs,m,_,hx,hlen,hxl,hi⟩:=DataW.trod_array (n:=3) (e:=9) (by kernel_rfl) h4
 rw [show Tryz.prog.cellsOf 243=3 by kernel_rfl] at hlen
 rw [show Tryz.prog.cellsOf 9=1 by kernel_rfl] at hi
 have h5:=glo_of gLab h3
 have key:∀ i,i < 3→∃ s:ByteArray,cs.toList[i]? = some (.string s)∧xs[i]?.map (·.1)=some (.lit (.string s.data.toList)):=by
  intro i h3
  have e1:=hi i h3
  rw [Nat.mul_one] at e1
  have e2:xs[i]? = some xs[i]:=List.getElem?_eq_getElem (by omega)
  obtain ⟨s,e3,e4,_⟩:=DataW.trod_string (by kernel_rfl) (e1.trans e2)
  refine ⟨s,?_,by rw [e2,e4]; rfl⟩
  have e5:((cs.toList.drop i).take 1)[0]? = some (.string s):=by rw [e3]; rfl
  rw [List.getElem?_take_of_lt (by omega),List.getElem?_drop] at e5
  simpa using e5
 obtain ⟨s0,c0,x0⟩:=key 0 (by omega)
 obtain ⟨s1,c1,x1⟩:=key 1 (by omega)
 obtain ⟨s2,c2,x2⟩:=key 2 (by omega)
 simp only [Prod.mk.injEq,Rows.laid_chartroom_schedule_labels,DataW.agg.injEq] at hx
 have hx1:=hx.1
 have g:∀ i:Nat,(xs.map (·.1))[i]? = (xs[i]?).map (·.1):=fun i=>by simp
 have y0:=(g 0).trans x0
 have y1:=(g 1).trans x1
 have y2:=(g 2).trans x2
 rw [← hx1] at y0 y1 y2
 simp only [List.getElem?_cons_zero,List.getElem?_cons_succ,Option.some.injEq,DataW.lit.injEq,Lit.string.injEq] at y0 y1 y2
 have bb:∀ {s:ByteArray} {l:List UInt8},l=s.data.toList→s=Iq l:=by
  intro s l h
  subst h
  rfl
 have hcs:cs.toList=labs.map fun s=>.string (Iq s):=by
  apply List.ext_getElem?
  intro i
  match i with
  | 0=>rw [c0,bb y0]; rfl
  | 1=>rw [c1,bb y1]; rfl
  | 2=>rw [c2,bb y2]; rfl
  | i+3=>rw [List.getElem?_eq_none (by omega),List.getElem?_eq_none (by show 3≤_; omega)]
 rw [hcs] at h5
 exact h5
structure GloS (w:World):Prop where
 s:De 1 (Av .u32 B9) w
 k:De 3 (Av .u32 D1) w
 c:De 6 (Av .u32 E7) w
 g:De 0 (labs.map fun s=>.string (Iq s)) w
theorem of_laid {w:World} (h:laidMetH Tryz.prog laid5 w):GloS w:=by
 rw [MakeChecks.laidMetH_plain _ _ _ (by kernel_rfl)] at h
 obtain ⟨ps,hl,_,_⟩:=h
 exact ⟨glo_tab hl (e:=252) (len:=8) (k:=.u32) (zs:=B9) (.head _) gStart tStart (by kernel_rfl) (by kernel_rfl) (by kernel_rfl) (by kernel_rfl),
  glo_tab hl (e:=252) (len:=64) (k:=.u32) (zs:=D1) (.tail _ (.head _)) gNum tNum (by kernel_rfl) (by kernel_rfl) (by kernel_rfl) (by kernel_rfl),
  glo_tab hl (e:=252) (len:=4) (k:=.u32) (zs:=E7) (.tail _ (.tail _ (.tail _ (.head _)))) gConst tConst (by kernel_rfl) (by kernel_rfl) (by kernel_rfl) (by kernel_rfl),
  glo_labs hl (.tail _ (.tail _ (.tail _ (.tail _ (.head _)))))⟩
theorem door_met (os:Os) (args:Array Value):laidMetH Tryz.prog laid5 ((World.doorLaid Tryz.prog 48 os).forCall (fun _ _=>0) ⟨#[],args,[]⟩).memory:=by
 rw [MakeChecks.laidMetH_plain _ _ _ (by kernel_rfl)]
 exact laidMet_of_run' 8 (by kernel_rfl) (by kernel_rfl)
end Go.Chx
namespace Go.Chx
open Go Go.Proofs Go.ChangeShapes Go.WideShapes Go.ChangeAt Go.RowKit Go.Proofs.YtegbaopejhpnkaaGreatDoor
set_option maxHeartbeats 1000000
set_option maxRecDepth 100000
section
variable {w w':World}
theorem cell_keep (h:∀ b,b < w.heap.size→w'.heap[b]? = w.heap[b]?) {a:Addr} {v:Value} (hc:w.cell? a=some v):w'.cell? a=some v:=by
 have hb:a.block < w.heap.size:=by
  by_cases hb:a.block < w.heap.size
  ·exact hb
  ·have:w.heap[a.block]? = none:=Array.getElem?_eq_none (by omega)
   unfold World.cell? at hc
   rw [this] at hc
   cases hc
 unfold World.cell? at hc ⊢
 rw [h _ hb]; exact hc
theorem At.keep (h:∀ b,b < w.heap.size→w'.heap[b]? = w.heap[b]?) {a:Option Addr} {cs:List Value} (hc:At w a cs):At w' a cs:=by
 obtain ⟨b,e,hb⟩:=hc
 exact ⟨b,e,fun j v hv=>cell_keep h (hb j v hv)⟩
theorem Sl.keep (h:∀ b,b < w.heap.size→w'.heap[b]? = w.heap[b]?) {sz n:Nat} {cs:List Value} {v:Value} (hc:Sl sz n cs v w):Sl sz n cs v w':=by
 obtain ⟨a,cap,h1,h2,h3,h4,h5⟩:=hc
 exact ⟨a,cap,h1,h2,h3,h4,h5.imp id (At.keep h)⟩
end
theorem calls_of {f:FuncId} {args:List Value} {I:World→Prop} {α:Type} {out:α→Out} (h:Ay Tryz.prog f args [] I out) {w:World} (hI:∀ w':World,(∀ b,b < w.heap.size→w'.heap[b]? = w.heap[b]?)→I w') :
  Calls Tryz.prog f args.toArray w fun e w'=>∃ x,(out x).p∧e=.returned (out x).v∧Below w.heap.size w w':=by
 refine (h (fun _=>False) w ⟨fun _ h=>h.elim,Ext.refl _ w,.nil,fun _ _ h=>(List.not_mem_nil h).elim,fun _ h=>(List.not_mem_nil h).elim,fun _ h=>(List.not_mem_nil h).elim,⟨fun b=>b < w.heap.size,fun b hb=>⟨hb,fun h=>h.elim id (fun h=>List.not_mem_nil h)⟩,hI⟩⟩).mono ?_
 rintro e w' ⟨x,hp,he,hw⟩
 exact ⟨x,hp,he,hw.ext.os,hw.ext.tape,hw.ext.output,hw.ext.size,fun k hk=>hw.ext.block k hk (fun h=>List.not_mem_nil h)⟩
end Go.Chx
namespace Go.Chx
open Go Go.Proofs Go.ChangeShapes Go.WideShapes Go.ChangeAt Go.RowKit Go.Proofs.YtegbaopejhpnkaaGreatDoor
set_option maxHeartbeats 1000000
set_option maxRecDepth 100000
theorem agg_of {l:List Value} {cs:Array Value} (h:cs.toList=l):Value.agg cs=.agg l.toArray:=by subst h; simp
theorem members_calls (g:Gp) (c:Cm) (y:Int) (htc:g.tr.l.length≤g.tr.c) (hbx:c.bx.length≤maxLen) (hwx:c.wl.length≤maxLen) (hcI:Kq c=true→CmI c 200) {w:World} (hG:GF1 g w∧g.tr.F w) (hC:CF1 c w∧CF2 c w∧CF3 c w∧CF4 c w∧CF5 c w∧CF6 c w) (hL:GloS w) :
  Calls Tryz.prog 3 #[av g.segs,av c.segs,iv y] w fun e w'=>e=.returned (.bool true)∧Below w.heap.size w w':=by
 obtain ⟨k,hk,hy⟩:=and15 y
 have hm:maxLen=9223372036854775807:=by decide
 rw [hm] at hbx hwx
 refine (calls_of (members_spec0 g c y k hk hy htc hbx hwx hcI) (w:=w) fun w' hw=>?_).mono ?_
 ·obtain ⟨c1,c2,c3,c4,c5,c6⟩:=hC
  exact ⟨hG.1.keep hw,hG.2.keep hw,c1.keep hw,c2.keep hw,c3.keep hw,fun b hb=>(c4 b hb).keep hw,c5.keep hw,fun b hb=>(c6 b hb).keep hw,hL.s.keep hw,hL.k.keep hw,hL.c.keep hw,hL.g.keep hw,tR⟩
 ·rintro e w' ⟨_,_,he,hb⟩
  exact ⟨he,hb⟩
theorem members_lifted (os:Os) (started:os.Started) (H:Type) (enc:TypeId × Value→H) :
  ReturnsInHanded {} Tryz.checked os 3 .any (fun w args=>(Rows.commitsMembersSpec.pre enc Tryz.prog Tryz.f3 [] false w args∧laidMetH Tryz.prog laid5 w)∧sizedMet enc Tryz.prog Tryz.f3 (OpenSpec.ofChange Rows.commitsMembersSpec) false w args)
   (Rows.commitsMembersSpec.post enc Tryz.prog Tryz.f3 false true false false):=by
 refine returnsInHanded_of_change_and (C:=Tryz.checked) (X:=fun w _=>laidMetH Tryz.prog laid5 w) (fun _ _ _ hh h=>h.of_heap hh) own started (by kernel_rfl) Tryz.func3
  (ChangeSpec.witness_shaped (enc:=enc) (C:=Tryz.checked) (os:=os) (X:=fun w _=>laidMetH Tryz.prog laid5 w) false (World.doorLaid Tryz.prog 48 os) #[av gZ.segs,av cZ.segs,iv 0] 8 rfl (World.shaped_of_RefB (by kernel_rfl) (by kernel_rfl)) (by kernel_rfl) (by kernel_rfl) (by kernel_rfl) (door_met os _)) ?_
 intro W base args ds gs Bd hval0 hW _ _ hL _
 have hval:∀ (j:Nat) t v,Tryz.f3.params[j]? = some t→args[j]? = some v→Value.okWide Tryz.prog W .any base t v:=hval0
 have hW':=hW
 obtain ⟨p,q,hA0,hV,rfl,hfz,hnd⟩:=hW
 have hA:DataW.TrodAll enc Tryz.prog W 0 (fun _=>true) true Tryz.f3.params.toList args.toList ds p:=hA0
 rw [Tryz.params3] at hA hval
 obtain ⟨v0,v1,v2,d0,d1,d2,p0,p1,p2,rfl,rfl,rfl,h0,h1,h2⟩:=trodAll_three hA
 obtain ⟨rfl,rfl⟩:=trodVars_none hV
 obtain ⟨cs0,rfl,_⟩:=okWide_struct Tryz.underlying29 (hval 0 29 v0 rfl rfl)
 obtain ⟨cs1,rfl,_⟩:=okWide_struct Tryz.underlying37 (hval 1 37 v1 rfl rfl)
 obtain ⟨y,rfl,rfl,rfl,_⟩:=open_int Tryz.underlying3 (hval 2 3 v2 rfl rfl) h2
 have k0:=h0
 have k1:=h1
 obtain ⟨n0,h0⟩:=h0
 obtain ⟨n1,h1⟩:=h1
 obtain ⟨g,e0,_,_,htc,hG⟩:=open_group (cs:=cs0.toList) h0
 obtain ⟨c,e1,hb1,hb2,hci,hC⟩:=open_commit (cs:=cs1.toList) h1
 rw [agg_of e0] at k0 hW' hval ⊢
 rw [agg_of e1] at k1 hW' ⊢
 refine (members_calls g c y htc hb1 hb2 (fun hf=>hci 200 (fewC_h hf).2.1 (fewC_h hf).2.2) hG hC (of_laid hL)).mono ?_
 rintro e W' ⟨rfl,hbelow⟩
 have hlt:∀ x∈p0++p1++[]++[],x.block < W.heap.size:=fun x hx=>by simpa using hW'.lt x hx
 have hl0:∀ x∈p0,x.block < W.heap.size:=fun x hx=>hlt x (by simp [hx])
 have hl1:∀ x∈p1,x.block < W.heap.size:=fun x hx=>hlt x (by simp [hx])
 refine ⟨_,Z,_,_,_,[],p0++p1++[],[],hW',?_,?_,Z,hbelow.frame _,fun h=>by cases h⟩
 ·exact trodAll_mk1 (shut_bool Tryz.underlying4 true)
 ·exact trodAll_mk3 (Below.trod laidOut (by kernel_rfl) (of_decide_eq_true (by kernel_rfl)) k0 hbelow hl0) (Below.trod laidOut (by kernel_rfl) (of_decide_eq_true (by kernel_rfl)) k1 hbelow hl1) (shut_int Tryz.underlying3 (by assumption)) |> fun h=>by rw [List.append_assoc]; exact h
end Go.Chx
