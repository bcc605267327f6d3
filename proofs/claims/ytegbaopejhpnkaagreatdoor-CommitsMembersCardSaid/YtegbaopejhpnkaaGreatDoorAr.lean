/- Part of the proof that the law CommitsMembers holds. -/
import Derived.Test.YtegbaopejhpnkaaGreatDoorAa
import Derived.Test.YtegbaopejhpnkaaGreatDoorAh
import Derived.Test.YtegbaopejhpnkaaGreatDoorAq
namespace Go.Chx
open Go Go.Proofs
set_option maxHeartbeats 1000000
set_option maxRecDepth 4000
theorem blank_spec (r:Nat) (es:Array MapEntry) (cl:Nat) (f:Int→Option Value) (hm_m0:MapI es cl f) (x:Int):Ay Tryz.prog 192 [mpV r,iv x] [mpE r es cl] (fun _=>True) (fun y:Array MapEntry × Nat=>⟨MapI y.1 y.2 (mdel f x),.tuple #[],[mpE r y.1 y.2],fun _=>True⟩):=by
 exact Aj Tryz.func192 Z Z fun X w0=>(Aa (oj (mv Z Z (oj (mv Z Z (oj (mdl0 Z Z Tryz.underlying160 Tryz.underlying3 (fun _ _=>.head) hm_m0 (fun es_m0 cl_m0 hm_m0=>(on (As (es_m0,cl_m0) Z .nil Z hm_m0 (.refl _) (fun w h=>tR) (.inr Z)))))))))))
theorem keys_it (r1 r:Nat) (es:Array MapEntry) (cl:Nat) (f:Int→Option Value) (hm:MapI es cl f):Fd Tryz.prog 246 [] [Bg r1 0] [] (fun w=>Bc r1 [S1 (mpV r)] 160 w∧MapO r es cl w∧True) (fun x:Int=>[iv x])  (KeysOf f):=by
 intro y σ Ps L J T s0 hs0 hY
 refine Aj Tryz.func246 Z Z fun X w0=>Ae (fun w h=>(h:J s0 w∧(fun w=>Bc r1 [S1 (mpV r)] 160 w∧MapO r es cl w∧True) w)) (Ab (Aa (oj (A4 Z Z ty_160 (fun w h=>Bc.at1 (h.2.1) Z) (oj (mrg (es:=es) Z Z Tryz.underlying160 (fun w h=>(h.2.2.1)) (fun r5=>(on (qn (Ag (Aw (fun (sT:(List MapEntry) × (σ))=>(⟨Ps sT.2∧(∀ e∈sT.1,e∈es.toList)∧(sT.1.map (·.born)).Nodup∧Run T (sT.1.map keyI) s0 sT.2,[(0,.func (.yield y) #[] #[]),(5,Bg r5 0)],([itE r5 r cl (sT.1.map (·.born))]++L sT.2),fun w=>J sT.2 w∧Bc r1 [S1 (mpV r)] 160 w∧MapO r es cl w∧True,es.size-sT.1.length⟩:Hd)) ([],s0) (⟨hs0,by simp,by simp,.nil⟩) (⟨Z,Z,tR⟩) (.cons_cons _ (.refl _)) (fun w h=>⟨(h.1),(h.2.1),(h.2.2.1),tR⟩) ?_)))))))))))
 rintro ⟨zs,s⟩ ⟨hs,h1,h2,hr⟩
 try dsimp only
 try dsimp only at hs h1 h2 hr
 refine Ab (Aa ?_)
 refine oj (mnx Z Z hm (fun w h=>(h.2.2.1)) (fun _=>.head) (fun h0=>?_) (fun en hen hnb=>?_))
 ·exact oj (ext Z Z Z (on (qn (Ab (Ap Z (fun h=>by cases h) (fun _=>(A1 (qe (qe (be (As s Z .nil Z ⟨hs,_,keys_all hm h1 h2 h0,hr⟩ (.cons _ (.refl _)) (fun w h=>(h.1)) (.inr Z))))))))))))
 ·refine oj (ext Z Z Z (on (qn (Ab (Ap Z (fun _=>(Ah (qn (Ag (Ab (Aa (oj (ment Z Z hm (fun w h=>(h.2.2.1)) (.head _) hen (oj (ext Z Z Z (oj (Ak Z Z (on (qn (Ab ?_))))))))))))))) (fun h=>by cases h))))))
  refine Aa (oj (mv Z Z (oj (mv Z Z ?_))))
  obtain ⟨rest,hrest⟩:=keys_rest hm h1 h2 hen hnb
  refine oj (yldr (own:=[_]) hY (x:=keyI en) ⟨_,rest,hr,hrest⟩ hs Z Z (.cons Z .nil) Z (fun w h=>(h.1)) (fun s2 hP hT=>?_))
  try dsimp only [List.cons_append,List.nil_append]
  exact kj_J (oj (not Z Z (on (qn (Ap Z (fun h=>by cases h) (fun _=>(Ah (bn (qn (Ar (zs++[en],s2) (by have:=born_lt h1 h2 hen hnb; simp only [List.length_append,List.length_singleton]; omega) (⟨hP,fun e he=>by rcases List.mem_append.1 he with he | he; exact h1 e he; rw [List.mem_singleton.1 he]; exact hen,by rw [List.map_append,List.nodup_append]; exact ⟨h2,by simp,fun a ha b hb=>by simp at hb; subst hb; exact fun e=>hnb (e ▸ ha)⟩,by rw [List.map_append]; exact hr.snoc hT⟩) (⟨Z,Z,tR⟩) (.cons_cons _ (.refl _)) (fun w h=>⟨(h.1.1),(h.2.2.1),(Cu h),tR⟩)))))))))))
theorem keysn_it (r1:Nat):Fd Tryz.prog 246 [] [Bg r1 0] [] (fun w=>Bc r1 [S1 (.map none)] 160 w∧True) (fun x:Int=>[iv x])  ((· = [])):=by
 intro y σ Ps L J T s0 hs0 hY
 refine Aj Tryz.func246 Z Z fun X w0=>Ae (fun w h=>(h:J s0 w∧(fun w=>Bc r1 [S1 (.map none)] 160 w∧True) w)) (Ab (Aa (oj (A4 Z Z ty_160 (fun w h=>Bc.at1 (h.2.1) Z) (oj (mrn Z Z Tryz.underlying160 (fun r5=>(on (qn (Ag (Aw (fun (sT:(σ))=>(⟨Ps sT∧sT=s0,[(5,Bg r5 0)],([some (r5,.mapIter none 0 #[] 0)]++L sT),fun w=>J sT w∧True,0⟩:Hd)) (s0) (⟨hs0,Z⟩) (⟨Z,tR⟩) (.cons_cons _ (.refl _)) (fun w h=>⟨(h.1),tR⟩) ?_)))))))))))
 rintro s ⟨hs,hr⟩
 try dsimp only
 refine Ab (Aa (oj (mnn Z Z (.head _) (oj (ext Z Z Z (on (qn (Ab (Ap Z (fun h=>by cases h) (fun _=>(A1 (qe (qe (be ?_))))))))))))))
 exact As s Z .nil Z ⟨hs,_,Z,by rw [hr]; exact .nil⟩ (.cons _ (.refl _)) (fun w h=>(h.1)) (.inr Z)
theorem keys_spec (v:Value) (h1:v.oneCell'=true):Ay Tryz.prog 195 [v] [] (fun _=>True) (fun r:Nat=>⟨True,.func (.func 246) #[] #[Bg r 0],[],fun w=>Bc r [S1 v h1] 160 w∧True⟩):=by
 refine Aj Tryz.func195 Z Z fun X w0=>(Ab (Aa (oj (box1 Z Z h1 (fun r1=>(oj (Ak Z Z (on (qn (Ab (Aa (oj (mkF Z .nil (.cons Z .nil) (oj (Ak Z Z (on (qn (Af (Al (Am 0 _ _ Z) ?_)))))))))))))))))))
 try dsimp only [List.eraseIdx]
 exact As r1 Z (.tmp Z .nil) Z tR .slnil (fun w h=>⟨(h.1.1),tR⟩) (.inl Z)
theorem appseq_spec (g:FuncId) (fs cs:List Value) (W:List A9) (I0:World→Prop) (G:List Int→Prop) (N:Nat) (hN:N≤1000000) (hG0:∀ xs,G xs→xs.length≤N) (hg:Aq Tryz.prog g=true) (it:Fd Tryz.prog g fs cs W I0 (fun x:Int=>[iv x]) G):Ay Tryz.prog 270 [.slice none 0 0,.func (.func g) fs.toArray cs.toArray] W (fun w=>I0 w∧True) (fun x:Value × A9 × List Int=>⟨G x.2.2∧Own 3 1 x.1 x.2.2.length (x.2.2.flatMap fun x=>[iv x]) x.2.1,x.1,[x.2.1],fun _=>True⟩):=by
 refine Dv Tryz.func270 Z Z fun X w0=>(Cx (Ab (Aa (oj (box1 Z Z Z (fun r2=>(oj (Ak Z Z (on (qn (Ab (Ab (Aa (oj (mv Z Z (on (qn (Ag (Cn (l':=W++[_,_]) List.perm_append_comm ?_)))))))))))))))))))
 refine Hr Z Z hg (it) (fun (sT:(List Int) × (Nat) × (Option Addr) × (Nat) × (A9))=>(⟨Own 3 1 (.slice sT.2.2.1 sT.2.1 sT.2.2.2.1) sT.2.1 (sT.1.flatMap fun x=>[iv x]) sT.2.2.2.2∧sT.2.1=sT.1.length,[],[bx r2 [S1 (.slice sT.2.2.1 sT.2.1 sT.2.2.2.1)] 31,sT.2.2.2.2],fun _=>True,0⟩:Hd)) (fun s x s'=>s'.1=s.1++[x]) (([],0,none,0,none)) (⟨.nil,Z⟩) (List.Sublist.append_left (.refl _) W) (fun w h=>(h.1)) (fun w h=>tR) (fun _=>⟨Z,Z⟩) ?_ ?_
 ·rintro ⟨us,n,va,vc,en⟩ x ⟨ho,hn⟩ ⟨ys,zs,hrn,hG⟩ rl rd fn tm X1 w1
  try dsimp only [List.cons_append,List.nil_append]
  try dsimp only at ho hn ys zs hrn hG
  have hxs:=run_map (g:=fun s:List Int × Nat × Option Addr × Nat × A9=>s.1) (f:=id) (fun _ _ _ h=>h) hrn
  dsimp only at hxs hG
  rw [List.nil_append,List.map_id] at hxs
  have hxl:n < N:=by
   rw [hn,hxs]
   have h1:=hG0 _ hG
   simp only [List.length_append,List.length_cons] at h1
   omega
  refine Aa (oj (Ak Z Z (on (qn (Fy (.tail (.tail .head)) (Ag (Aa (oj (Bh Z Z Eg (.head _) (Z) (oj (mv Z Z (oj (F7 Z Tryz.underlying31 Ai Gd (C3 Z Z .nil) (by repeat (first | exact List.forall_mem_nil _ | refine List.forall_mem_cons.2 ⟨rfl,?_⟩)) Z (by decide) Z (fun r10=>?_))))))))))))))
  refine Al (Am 0 _ _ Z) ?_
  try dsimp only [List.eraseIdx]
  refine oj (Ku Z Z Z el_31 (by kernel_rfl) ho (i:=1) Z (fun w ho h=>Bc.src (h.1.1) Z) (by omega) (by simp only [maxLen]; omega) (fun v11 e11 ho11=>?_))
  try dsimp only [List.set]
  obtain ⟨va11,vc11,hv11,hc11⟩:=ho11.shape'
  subst hv11
  exact oj (Cr Z Z Eg Z .head (.head Z) Z (on (bn (Ik ((us++[x],n+1,va11,vc11,e11)) (.tail (.tail .head)) Z (⟨⟨by rw [Dj]; exact ho11,by simp [hn]⟩,Z⟩) (.refl _) (fun w h=>tR)))))
 ·rintro ⟨us,n,va,vc,en⟩ rd2 ⟨ho,hn⟩ ⟨xs,hG,hrun⟩
  try dsimp only [List.cons_append,List.nil_append]
  try dsimp only at ho hn hG hrun
  have hxs:=run_map (g:=fun s:List Int × Nat × Option Addr × Nat × A9=>s.1) (f:=id) (fun _ _ _ h=>h) hrun
  dsimp only at hxs
  rw [List.nil_append,List.map_id] at hxs
  subst hn
  exact bn (qn (Ab (Aa (oj (Bh Z Z Eg (.tail _ (.head _)) (Z) (oj (Ak Z Z (on (qn (Af (retM (ds:=[rd2]) (.slice va us.length vc,en,us) Z (.refl _) Z (.tmp Z .nil) Z ⟨by (try dsimp only); rw [hxs]; exact hG,ho⟩ (.cons _ (.refl _)) (fun w h=>tR) (.inl Z))))))))))))
theorem collect_spec (g:FuncId) (fs cs:List Value) (W:List A9) (I0:World→Prop) (G:List Int→Prop) (N:Nat) (hN:N≤1000000) (hG0:∀ xs,G xs→xs.length≤N) (hg:Aq Tryz.prog g=true) (it:Fd Tryz.prog g fs cs W I0 (fun x:Int=>[iv x]) G):Ay Tryz.prog 232 [.func (.func g) fs.toArray cs.toArray] W (fun w=>I0 w∧True) (fun x:Value × A9 × List Int=>⟨G x.2.2∧Own 3 1 x.1 x.2.2.length (x.2.2.flatMap fun x=>[iv x]) x.2.1,x.1,[x.2.1],fun _=>True⟩):=by
 refine Aj Tryz.func232 Z Z fun X w0=>(Ab (Aa (oj (Ak Z Z (on (qn (Ab (Aa (oj (mv Z Z (oj (Hl Z Z (.cons Z (.cons Z .nil)) fb_270 (by rw [List.append_nil]) (appseq_spec g fs cs W I0 G N hN hG0 hg it) (fun w h=>⟨(h.1),tR⟩) ?_))))))))))))
 rintro ⟨v,en,us⟩ ⟨h1,h2⟩
 try dsimp only at h1 h2
 try dsimp only
 exact oj (Ak Z Z (on (qn (Af (As (v,en,us) Z (.tmp Z .nil) Z ⟨h1,h2⟩ (.refl _) (fun w h=>tR) (.inl Z))))))
theorem sorted_spec (g:FuncId) (fs cs:List Value) (W:List A9) (I0:World→Prop) (G:List Int→Prop) (N:Nat) (hN:N≤1000000) (hG0:∀ xs,G xs→xs.length≤N) (hg:Aq Tryz.prog g=true) (it:Fd Tryz.prog g fs cs W I0 (fun x:Int=>[iv x]) G):Ay Tryz.prog 194 [.func (.func g) fs.toArray cs.toArray] W (fun w=>I0 w∧True) (fun x:Value × A9 × List Int=>⟨G x.2.2∧Own 3 1 x.1 x.2.2.length ((x.2.2.mergeSort fun x y=>decide (x≤y)).flatMap fun x=>[iv x]) x.2.1,x.1,[x.2.1],fun _=>True⟩):=by
 refine Aj Tryz.func194 Z Z fun X w0=>(Ab (Aa (oj (Ak Z Z (on (qn (Ab (Aa (oj (mv Z Z (oj (Hl Z Z (.cons Z .nil) fb_232 (by rw [List.append_nil]) (collect_spec g fs cs W I0 G N hN hG0 hg it) (fun w h=>⟨(h.1),tR⟩) ?_))))))))))))
 rintro ⟨v,en,us⟩ ⟨h1,h2⟩
 try dsimp only at h1 h2
 try dsimp only
 refine oj (Ak Z Z (on (qn (Ab (Aa (oj (mv Z Z (oj (Ce Z Z (.cons Z .nil) fb_185 (sort_spec v _ us en h2 Z (Nat.le_trans (hG0 _ h1) hN)) (fun _=>.head) (fun _=>Z) (fun w h=>tR) ?_)))))))))
 rintro e7 ho7
 try dsimp only
 exact on (qn (Ab (Aa (oj (mv Z Z (oj (Ak Z Z (on (qn (Af (As (v,e7,us) Z (.tmp Z .nil) Z ⟨h1,ho7⟩ (.refl _) (fun w h=>tR) (.inl Z))))))))))))
def vI:Option Value→Int
 | some (.int _ p)=>p
 | _=>0
def I1 (f:Int→Option Value):Prop:=∀ x v,f x=some v→∃ p,v=iv p
theorem vI_get {f:Int→Option Value} (hf:I1 f) (x:Int):(f x).getD (iv 0)=iv (vI (f x)):=by
 cases h:f x with
 | none=>rfl
 | some v=>obtain ⟨p,rfl⟩:=hf x v h; rfl
theorem vI_some {f:Int→Option Value} (hf:I1 f) {x:Int} (h:(f x).isSome=true):f x=some (iv (vI (f x))):=by
 obtain ⟨v,hv⟩:=Option.isSome_iff_exists.1 h
 obtain ⟨p,rfl⟩:=hf x v hv
 rw [hv]; rfl
theorem I1.of (l:List (Int × Int)):I1 (ofF l):=fun x v h=>by
 unfold ofF at h
 obtain ⟨p,_,rfl⟩:=Option.map_eq_some_iff.1 h
 exact ⟨p,Z⟩
theorem I1.del {f:Int→Option Value} (h:I1 f) (ks:List Int):I1 (delK f ks):=fun x v hx=>by
 unfold delK at hx
 split at hx
 ·cases hx
 ·exact h x v hx
theorem I1.put {f:Int→Option Value} (h:I1 f) (y p:Int):I1 (Ft f y (iv p)):=fun x v hx=>by
 unfold Ft at hx
 split at hx
 ·cases hx; exact ⟨p,rfl⟩
 ·exact h x v hx
theorem lookup_keys (g:Int→Int):∀ (ks:List Int) (x:Int),(ks.map fun k=>(k,g k)).lookup x=if x∈ks then some (g x) else none:=by
 intro ks x
 induction ks with
 | nil=>rfl
 | cons k ks ih =>
  rw [List.map_cons,List.lookup_cons]
  by_cases h:x=k
  ·subst h; simp
  ·have:(x == k)=false:=by simpa using h
   rw [this]
   simp only [ih,List.mem_cons,h,false_or]
def trK (f:Int→Option Value) (us:List Int):List (Int × Int):=(us.mergeSort fun x y=>decide (x≤y)).map fun k=>(k,vI (f k))
theorem trK_len (f:Int→Option Value) (us:List Int):(trK f us).length=us.length:=by unfold trK; rw [List.length_map,List.length_mergeSort]
theorem srt_keys {f:Int→Option Value} {us:List Int} (hf:I1 f) (h:KeysOf f us):SrtOf (trK f us) f:=by
 have hp:=List.mergeSort_perm us (fun x y:Int=>decide (x≤y))
 constructor
 ·unfold trK
  rw [List.pairwise_map]
  have h1:=List.pairwise_mergeSort (le:=fun x y:Int=>decide (x≤y)) (fun a b c h1 h2=>by simp at *; omega) (fun a b=>by simp; omega) us
  have h2:(us.mergeSort fun x y=>decide (x≤y)).Nodup:=hp.nodup_iff.2 h.1
  have h3:=h1.and (List.nodup_iff_pairwise_ne.1 h2)
  exact h3.imp fun ⟨h1,h2⟩=>by
   simp only [decide_eq_true_eq] at h1
   show _ < _
   omega
 ·funext x
  unfold trK
  rw [lookup_keys (fun k=>vI (f k))]
  by_cases hx:x∈(us.mergeSort fun x y=>decide (x≤y))
  ·rw [if_pos hx]
   exact (vI_some hf ((h.2 x).1 (hp.mem_iff.1 hx))).symm
  ·rw [if_neg hx]
   cases e:f x with
   | none=>rfl
   | some v=>exact absurd (hp.mem_iff.2 ((h.2 x).2 (by rw [e]; rfl))) hx
theorem keys_le {f:Int→Option Value} {us K0:List Int} (h:KeysOf f us) (hK:∀ x,(f x).isSome=true→x∈K0):us.length≤K0.length:=by
 have:∀ {l m:List Int},l.Nodup→(∀ x∈l,x∈m)→l.length≤m.length:=by
  intro l
  induction l with
  | nil=>intro m _ _; simp
  | cons a l ih =>
   intro m hn hm
   obtain ⟨h1,h2⟩:=List.nodup_cons.1 hn
   have ha:=hm a (.head _)
   have:=ih (m:=m.erase a) h2 fun x hx=>(List.mem_erase_of_ne (by intro e; subst e; exact h1 hx)).2 (hm x (.tail _ hx))
   rw [List.length_erase_of_mem ha] at this
   have:=List.length_pos_of_mem ha
   simp only [List.length_cons]; omega
 exact this h.1 fun x hx=>hK x ((h.2 x).1 hx)
theorem tree_spec (r:Nat) (es:Array MapEntry) (cl:Nat) (f:Int→Option Value) (hm:MapI es cl f) (hf:I1 f) (K0:List Int) (hK:∀ x,(f x).isSome=true→x∈K0) (hK0:K0.length≤100000):Ay Tryz.prog 132 [mpV r] [] (fun w=>MapO r es cl w∧True) (fun x:Tr=>⟨SrtOf x.l f∧x.l.length≤x.c∧x.l.length≤K0.length,x.v,[],fun w=>x.F w∧True⟩):=by
 refine Aj Tryz.func132 Z Z fun X w0=>(Cx (Ab (Aa (oj (C7 Z Ja (fun r2=>(on (qn (Ab (Ab (Aa (oj (mv Z Z (oj (call Z Z (.cons Z .nil) fb_195 (keys_spec (mpV r) Z)  (fun w h=>tR) ?_)))))))))))))))
 rintro rk _
 try dsimp only
 refine oj (Hl Z Z (.cons Z .nil) fb_194 (.refl _) (sorted_spec 246 [] [Bg rk 0] [] (fun w=>Bc rk [S1 (mpV r)] 160 w∧MapO r es cl w∧True) (KeysOf f) K0.length (by omega) (fun xs h=>keys_le h hK) fb_246 (keys_it rk r es cl f hm)) (fun w h=>⟨⟨(h.1.1),(h.2.1),tR⟩,tR⟩) ?_)
 rintro ⟨v,e0,us⟩ ⟨h1,h2⟩
 try dsimp only at h1 h2
 try dsimp only
 obtain ⟨va,vc,rfl,hvc⟩:=h2.shape'
 have hul:=keys_le h1 hK
 refine By (i:=0) Z h2 (fi_one _) ?_
 try dsimp only [List.eraseIdx]
 refine oj (Bn Z Z Tryz.underlying31 Z (oj (mv Z Z (on (qn (Ag (Aw (fun (sT:(Nat) × (Option Addr) × (Nat) × (A9))=>(⟨sT.1≤us.length∧Own 234 2 (.slice sT.2.1 sT.1 sT.2.2.1) sT.1 (((trK f us).take sT.1).flatMap ndc) sT.2.2.2,[(0,mpV r),(2,Bg r2 0),(7,.slice va us.length vc),(8,iv us.length),(9,iv (sT.1:Int))],[bx r2 [S1 (.slice sT.2.1 sT.1 sT.2.2.1)] 27,sT.2.2.2],fun w=>Sl 1 us.length ((us.mergeSort fun x y=>decide (x≤y)).flatMap fun x=>[iv x]) (.slice va us.length vc) w∧MapO r es cl w∧True,us.length-sT.1⟩:Hd)) (0,none,0,none) (⟨Nat.zero_le _,.nil⟩) (⟨Z,Z,Z,Z,Z,tR⟩) (.refl _) (fun w h=>⟨(h.1.1),(Cu h),tR⟩) ?_)))))))
 rintro ⟨i,ga,gc,en⟩ ⟨hi,ho⟩
 try dsimp only
 try dsimp only at hi ho
 refine Ab (Aa (oj (Dd Z Z Z (on (qn (Ab ?_))))))
 refine A8 Z (fun ht=>?_) (fun hfx=>?_)
 ·obtain ⟨k,hk⟩:∃ x,(us.mergeSort fun x y=>decide (x≤y))[i]? = some x:=⟨_,List.getElem?_eq_getElem (by rw [List.length_mergeSort]; omega)⟩
  have hkx:(trK f us)[i]? = some (k,vI (f k)):=by unfold trK; rw [List.getElem?_map,hk]; rfl
  refine Ah (qn (Ab (Ag (Ab (Aa (oj (Fc Z Z Z Tryz.underlying31 Ai (by omega) (fun w h=>Sl.some (h.1) (by omega)) (oj (A4 Z Z Ai (fun w h=>Sl.elem1 (h.1) (Dh hk)) (oj (Ak Z Z (on (qn (Aa (oj (A2 (o':=0) Z Z Jk Ju Z (oj (Bh Z Z Ju (.head _) (Z) (oj (mv Z Z (oj (mv Z Z ?_))))))))))))))))))))))
  refine oj (mv Z Z (oj (mlk Z Z Z Tryz.underlying160 Tryz.underlying3 zb_3 (fun w ho h=>⟨_,_,(h.2.1),hm⟩) (Ac (d:=18) (v:=iv (vI (f k))) Z (by rw [vI_get hf]) (oj (bld Z lay_234 (Ch Z Z (.head Z) (Ch Z Z (.tail (.head Z)) .nil)) (oj (F7 Z Tryz.underlying25 Jd zok_234 (.agg (s:=Fr 2 (ndc (k,vI (f k)))) Z .nil) (by repeat (first | exact List.forall_mem_nil _ | refine List.forall_mem_cons.2 ⟨rfl,?_⟩)) Z (by decide) Z (fun r20=>?_)))))))))
  refine Al (Am 0 _ _ Z) ?_
  try dsimp only [List.eraseIdx]
  refine oj (Ku Z Z Z el_25 (by kernel_rfl) ho (i:=1) Z (fun w ho h=>Bc.src (h.1.1) Z) (by omega) (by simp only [maxLen]; omega) (fun v21 e21 ho21=>?_))
  try dsimp only [List.set]
  obtain ⟨ga21,gc21,hv21,hc21⟩:=ho21.shape'
  subst hv21
  exact oj (A2 (o':=0) Z Z Jk Ju Z (oj (Cr Z Z Ju Z .head (.head Z) Z (on (bn (qn (Aa (oj (add Z Z Z (by omega) (oj (mv Z Z (on (qn (Ar (i+1,ga21,gc21,e21) (by dsimp only; omega) (⟨by (try dsimp only); omega,by rw [A7 hkx,Dj]; exact ho21⟩) (⟨Z,Z,Z,Z,Z,tR⟩) (.refl _) (fun w h=>⟨(h.2.1),(h.2.2.1),tR⟩)))))))))))))))
 ·have h4:i=us.length:=by omega
  subst h4
  have htl:=trK_len f us
  rw [List.take_of_length_le (by omega)] at ho
  refine A1 (qe (qe (be (qn (Ab (Aa (oj (Eb Z Z B1 (.head _) Z (oj (C0 Z Z B1 Z Z .head (on (qn (Af ?_)))))))))))))
  have hgc:us.length≤gc:=by
   obtain ⟨_,_,e,h⟩:=ho.shape'
   cases e
   exact h
  refine By (i:=1) Z ho (Do (fun _=>Z) _) ?_
  try dsimp only [List.eraseIdx]
  exact As ⟨trK f us,ga,gc⟩ Z (.cellW Z B1 (.head _) Z .nil) (by show av [S1 (.slice ga us.length gc)]=av [S1 (.slice ga (trK f us).length gc)]; rw [trK_len]) ⟨srt_keys hf h1,by (try dsimp only); omega,by (try dsimp only); omega⟩ (Bl _) (fun w h=>⟨by show Sl 2 (trK f us).length _ (.slice ga (trK f us).length gc) _; rw [trK_len]; exact (h.1.1),tR⟩) (.inl Z)
theorem treen_spec  : Ay Tryz.prog 132 [.map none] [] (fun _=>True) (fun x:Tr=>⟨x.l=[],x.v,[],fun w=>x.F w∧True⟩):=by
 refine Aj Tryz.func132 Z Z fun X w0=>(Cx (Ab (Aa (oj (C7 Z Ja (fun r2=>(on (qn (Ab (Ab (Aa (oj (mv Z Z (oj (call Z Z (.cons Z .nil) fb_195 (keys_spec (.map none) Z)  (fun w h=>tR) ?_)))))))))))))))
 rintro rk _
 try dsimp only
 refine oj (Hl Z Z (.cons Z .nil) fb_194 (.refl _) (sorted_spec 246 [] [Bg rk 0] [] (fun w=>Bc rk [S1 (.map none)] 160 w∧True) (· = []) 0 (by omega) (fun xs h=>by rw [h]; exact Nat.le_refl _) fb_246 (keysn_it rk)) (fun w h=>⟨⟨(h.1.1),tR⟩,tR⟩) ?_)
 rintro ⟨v,e0,us⟩ ⟨h1,h2⟩
 try dsimp only at h1 h2
 try dsimp only
 obtain ⟨va,vc,rfl,hvc⟩:=h2.shape'
 subst h1
 refine oj (Bn Z Z Tryz.underlying31 Z (oj (mv Z Z (on (qn (Ag (Aw (fun (sT:Unit)=>(⟨True,[(2,Bg r2 0),(8,iv 0),(9,iv 0)],[bx r2 [S1 (.slice none 0 0)] 27],fun _=>True,0⟩:Hd)) (()) (tR) (⟨Z,Z,Z,tR⟩) (.cons _ (.cons_cons _ (Bl _))) (fun w h=>tR) ?_)))))))
 rintro _u hi
 try dsimp only
 refine Ab (Aa (oj (Dd Z Z Z (on (qn (Ab (A8 Z (fun ht=>absurd ht (by omega)) (fun hf=>(A1 (qe (qe (be (qn (Ab (Aa (oj (Eb Z Z B1 (.head _) Z (oj (C0 Z Z B1 Z Z .head ?_)))))))))))))))))))
 exact on (qn (Af (As ⟨[],none,0⟩ Z (.cellW Z B1 (.head _) Z .nil) Z Z (Bl _) (fun w h=>⟨Be,tR⟩) (.inl Z))))
def chF (l:List (Int × Int)) (d:Int):Int→Option Value:=delK (ofF l) (upK d)
theorem I1.ch (l:List (Int × Int)) (d:Int):I1 (chF l d):=(I1.of l).del _
open Classical in
noncomputable def chB (l:List (Int × Int)):Int:=if Fu l then 200 else 210
theorem chB_ok {l:List (Int × Int)} (h:Fu l):chB l=200:=by unfold chB; rw [if_pos h]
theorem chB_tk {l:List (Int × Int)} (h:tkE l≠0):tkE l=chB l:=by
 have hn : ¬ Fu l:=fun h2=>h (tkE_ok h2)
 rw [Hs hn]; unfold chB; rw [if_neg hn]
theorem chF_keys {l:List (Int × Int)} {d x:Int} (h:(chF l d x).isSome=true):x∈l.map (·.1):=by
 unfold chF delK ofF at h
 split at h
 ·cases h
 ·cases e:l.lookup x with
  | none=>rw [e] at h; cases h
  | some v =>
   have:∀ {l:List (Int × Int)},l.lookup x=some v→x∈l.map (·.1):=by
    intro l
    induction l with
    | nil=>intro h; cases h
    | cons q l ih =>
     intro h
     rw [List.lookup_cons] at h
     by_cases hx:x=q.1
     ·subst hx; exact .head _
     ·have:(x == q.1)=false:=by simpa using hx
      rw [this] at h
      exact .tail _ (ih h)
   exact this e
def Ie (l:List (Int × Int)) (d:Int) (mem:Bool):Prop:=Fu l∧Eo d=true∧(mem=true→(ofF l (512+d)).isSome=true)
theorem srt_unique:∀ {l m:List (Int × Int)},l.Pairwise (fun a b=>a.1 < b.1)→m.Pairwise (fun a b=>a.1 < b.1)→(∀ x,l.lookup x=m.lookup x)→l=m:=by
 have hnone:∀ {l:List (Int × Int)} {x:Int},(∀ q∈l,x < q.1)→l.lookup x=none:=by
  intro l x
  induction l with
  | nil=>intro _; rfl
  | cons q l ih =>
   intro h
   rw [List.lookup_cons]
   have:(x == q.1)=false:=by have:=h q (.head _); simp; omega
   rw [this]
   exact ih fun r hr=>h r (.tail _ hr)
 intro l
 induction l with
 | nil =>
  intro m _ hm h
  cases m with
  | nil=>rfl
  | cons r m=>have:=h r.1; rw [List.lookup_cons_self] at this; cases this
 | cons q l ih =>
  intro m hl hm h
  cases m with
  | nil=>have:=h q.1; rw [List.lookup_cons_self] at this; cases this
  | cons r m =>
   obtain ⟨hq,hl'⟩:=List.pairwise_cons.1 hl
   obtain ⟨hr,hm'⟩:=List.pairwise_cons.1 hm
   have hk:q.1=r.1:=by
    rcases Int.lt_trichotomy q.1 r.1 with h1 | h1 | h1
    ·have h2:=h q.1
     rw [List.lookup_cons_self,List.lookup_cons] at h2
     have:(q.1 == r.1)=false:=by simp; omega
     rw [this,hnone (fun z hz=>by have:=hr z hz; omega)] at h2
     cases h2
    ·exact h1
    ·have h2:=h r.1
     rw [List.lookup_cons_self,List.lookup_cons] at h2
     have:(r.1 == q.1)=false:=by simp; omega
     rw [this,hnone (fun z hz=>by have:=hq z hz; omega)] at h2
     cases h2
   have hv:q.2=r.2:=by
    have h2:=h q.1
    rw [List.lookup_cons_self,hk,List.lookup_cons_self] at h2
    injection h2
   have hqr:q=r:=Prod.ext hk hv
   subst hqr
   congr 1
   refine ih hl' hm' fun x=>?_
   by_cases hx:x=q.1
   ·subst hx
    rw [hnone (fun z hz=>hq z hz),hnone (fun z hz=>hr z hz)]
   ·have h2:=h x
    rw [List.lookup_cons,List.lookup_cons] at h2
    have:(x == q.1)=false:=by simpa using hx
    rw [this] at h2
    exact h2
theorem srtOf_unique {l m:List (Int × Int)} {f:Int→Option Value} (h:SrtOf l f) (k:SrtOf m f):l=m:=by
 refine srt_unique h.1 k.1 fun x=>?_
 have:=congrFun (h.2.trans k.2.symm) x
 cases e:l.lookup x <;> cases e':m.lookup x <;> simp_all
open Classical in
noncomputable def srtL (f:Int→Option Value):List (Int × Int):=if h:∃ l,SrtOf l f then Classical.choose h else []
theorem srtL_eq {l:List (Int × Int)} {f:Int→Option Value} (h:SrtOf l f):l=srtL f:=by
 unfold srtL
 have hx:∃ l,SrtOf l f:=⟨l,h⟩
 rw [dif_pos hx]
 exact srtOf_unique h (Classical.choose_spec hx)
theorem chg_okT (t:Tr) (hl:t.l.length≤1000000) (d:Int) (hc:Ie t.l d true):Ay Tryz.prog 129 [t.v,iv d,.bool true] [] (fun w=>t.F w∧True) (fun x:(Nat × Array MapEntry × Nat) × (Option Addr × Nat)=>⟨MapI x.1.2.1 x.1.2.2 (chF t.l d)∧(Dz d C8).length≤x.2.2,.tuple #[mpV x.1.1,.slice x.2.1 (Dz d C8).length x.2.2,iv 0],[mpE x.1.1 x.1.2.1 x.1.2.2],fun w=>Sl 1 (Dz d C8).length ((Dz d C8).flatMap fun x=>[iv x]) (.slice x.2.1 (Dz d C8).length x.2.2) w∧True⟩):=by
 refine Aj Tryz.func129 Z Z fun X w0=>?_
 obtain ⟨hk,hd0,hs⟩:=hc
 have hd:=Bu.1 hd0
 have hal:=alL_len d C8
 refine Ab (Aa (oj (C6 Z Z (fun r3=>(Al (Am 0 _ _ Z) ?_)))))
 try dsimp only [List.eraseIdx]
 refine oj (Ak Z Z (oj (Ak Z Z (oj (Ak Z Z (on (qn (Ab (Ab (Aa (oj (Bx Z Z B1 (fun w h=>h.1.1) Z (oj (Ao Z Z (.cons Z .nil) fb_114 (Gz t hl)  (fun w h=>⟨(h.2.1),tR⟩) Z (fun _=>(Ae (fun w h=>h.2) (oj (Ak Z Z (on (qn (Ab (Aa ?_))))))))))))))))))))))
 refine oj (mv Z Z (oj (G2 Z Z Z (on (qn (C5 Z (fun ht=>absurd ht (by simp [tkE_ok hk])) (fun hf=>(Ah (qn (Ab (Aa (oj (Bx Z Z B1 (fun w h=>h.1.1) Z (oj (call Z Z (.cons Z .nil) fb_96 (of_spec t hl)  (fun w h=>⟨(h.2.1),tR⟩) ?_)))))))))))))))
 rintro ⟨rm,es_m,cl_m⟩ hm_m
 try dsimp only at hm_m
 try dsimp only
 refine oj (Ak Z Z (on (qn (Ab (Ab (Aa (oj (mv Z Z (oj (mv Z Z (oj (Id Z Z Z (Ac (d:=25) (v:=iv (512+d)) Z (by rw [Dr (by omega)]) (oj (mlo Z Z Z Tryz.underlying160 Tryz.underlying3 zb_3 (fun w ho h=>⟨_,_,ho _ _ (.head _),hm_m⟩) (oj (mv Z Z (oj (ext Z Z Z (oj (ext Z Z Z (oj (Ak Z Z (oj (Ak Z Z ?_)))))))))))))))))))))))))
 refine on (qn (Ab (Aa (oj (mv Z Z (oj (Dd Z Z Z (oj (mv Z Z (B5 (d:=31) Z (fun ht=>absurd ht (by omega)) (fun hf=>(oj (gt Z Z Z ((mv Z Z (oj (gt Z Z Z ((gei Z Z Z (oj (Df Z Z Z (oj (mv Z Z (B5 (d:=35) Z (fun ht=>absurd ht (by omega)) (fun hf=>(oj (gt Z Z Z ?_)))))))))))))))))))))))))))
 refine (mv Z Z (oj (gt Z Z Z ((mv Z Z (oj (gt Z Z Z ((mv Z Z (oj (gt Z Z Z ((not Z Z (oj (gt Z Z Z ((Cl Z Z Z (oj (Df Z Z Z (on (qn (Ap Z (fun ht=>absurd ht (by rw [hs rfl]; simp)) (fun hf=>(Ah (qn (Ab ?_))))))))))))))))))))))))))
 refine Aa (oj (mv Z Z (oj (call Z Z (.cons Z .nil) fb_24 (path_spec d)  (fun w h=>tR) ?_))))
 rintro ⟨pa,pc⟩ hpc
 try dsimp only at hpc
 try dsimp only
 refine oj (mv Z Z (oj (ext Z Z Z (oj (ext Z Z Z (oj (Ak Z Z (on (qn (Ab (Aa (oj (mv Z Z (oj (mkF Z (.cons Z .nil) .nil (oj (Ak Z Z (on (qn (Ab (Aa (oj (mv Z Z ?_)))))))))))))))))))))))
 refine oj (mv Z Z (oj (add Z Z Z (by omega) (oj (Ce Z Z (.cons Z .nil) fb_192 (blank_spec rm es_m cl_m _ hm_m (512+d)) (fun _=>.head) (fun _=>Z) (fun w h=>tR) ?_)))))
 rintro ⟨es_m,cl_m⟩ hm_m
 try dsimp only at hm_m
 try dsimp only
 try dsimp only at hm_m
 refine on (qn (Ab (Ab (Aa (oj (mv Z Z (oj (Bn Z Z Tryz.underlying31 Z (oj (mv Z Z (on (qn (Ag ?_)))))))))))))
 rw [← delK_nil (ofF t.l),delK_del,List.nil_append] at hm_m
 refine Aw (fun (sT:(Nat) × (Array MapEntry) × (Nat))=>(⟨sT.1≤(Dz d C8).length∧MapI sT.2.1 sT.2.2 (delK (ofF t.l) ((512+d)::(Dz d C8).take sT.1)),[(6,mpV rm),(7,.slice pa (Dz d C8).length pc),(12,.func (.func 192) #[mpV rm] #[]),(53,.slice pa (Dz d C8).length pc),(54,iv (Dz d C8).length),(55,iv (sT.1:Int))],[mpE rm sT.2.1 sT.2.2],fun w=>Sl 1 (Dz d C8).length ((Dz d C8).flatMap fun x=>[iv x]) (.slice pa (Dz d C8).length pc) w∧True,(Dz d C8).length-sT.1⟩:Hd)) (0,_,_) (⟨Nat.zero_le _,hm_m⟩) (⟨Z,Z,Z,Z,Z,Z,tR⟩) (.refl _) (fun w h=>⟨(h.2.1.1),tR⟩) ?_
 rintro ⟨j,es_m,cl_m⟩ ⟨hj,hm_m⟩
 try dsimp only
 try dsimp only at hj hm_m
 refine Ab (Aa (oj (Dd Z Z Z (on (qn (Ab ?_))))))
 refine A8 Z (fun ht=>?_) (fun hf=>?_)
 ·obtain ⟨x,hx⟩:∃ x,(Dz d C8)[j]? = some x:=⟨_,List.getElem?_eq_getElem (by omega)⟩
  refine Ah (qn (Ab (Ag (Ab (Aa (oj (Fc Z Z Z Tryz.underlying31 Ai (by omega) (fun w h=>Sl.some (h.1) (by omega)) (oj (A4 Z Z Ai (fun w h=>Sl.elem1 (h.1) (Dh hx)) (oj (Ak Z Z (on (qn (Aa (oj (mv Z Z (oj (mv Z Z (oj (Ce Z Z (.cons Z .nil) fb_192 (blank_spec rm es_m cl_m _ hm_m x) (fun _=>.head) (fun _=>Z) (fun w h=>tR) ?_))))))))))))))))))))
  rintro ⟨es_m,cl_m⟩ hm_m
  try dsimp only at hm_m
  try dsimp only
  refine on (bn (qn (Aa (oj (add Z Z Z (by omega) (oj (mv Z Z (on (qn ?_)))))))))
  try dsimp only at hm_m
  rw [delK_del] at hm_m
  exact Ar (j+1,es_m,cl_m) (by dsimp only; omega) (⟨by (try dsimp only); omega,by rw [A7 hx]; exact hm_m⟩) (⟨Z,Z,Z,Z,Z,Z,tR⟩) (.refl _) (fun w h=>⟨(h.2.1),tR⟩)
 ·have h4:j=(Dz d C8).length:=by omega
  subst h4
  rw [List.take_length] at hm_m
  exact A1 (qe (qe (be (qn (Ab (Aa (oj (mv Z Z (oj (mv Z Z (oj (Ak Z Z (oj (Ak Z Z (oj (Ak Z Z (on (qn (Af (As ((rm,es_m,cl_m),(pa,pc)) Z (.tmp Z (.tmp Z (.tmp Z .nil))) Z ⟨hm_m,hpc⟩ (.refl _) (fun w h=>⟨(h.1),tR⟩) (.inl Z)))))))))))))))))))))
theorem chg_badT (t:Tr) (hl:t.l.length≤1000000) (d:Int) (hc : ¬ Ie t.l d true):Ay Tryz.prog 129 [t.v,iv d,.bool true] [] (fun w=>t.F w∧True) (fun _:Unit=>⟨True,.tuple #[.map none,.slice none 0 0,iv (chB t.l)],[],fun _=>True⟩):=by
 refine Aj Tryz.func129 Z Z fun X w0=>(Ab (Aa (oj (C6 Z Z (fun r3=>(Al (Am 0 _ _ Z) ?_))))))
 try dsimp only [List.eraseIdx]
 refine oj (Ak Z Z (oj (Ak Z Z (oj (Ak Z Z (on (qn (Ab (Ab (Aa (oj (Bx Z Z B1 (fun w h=>h.1.1) Z (oj (Ao Z Z (.cons Z .nil) fb_114 (Gz t hl)  (fun w h=>⟨(h.2.1),tR⟩) Z (fun _=>(Ae (fun w h=>h.2) (oj (Ak Z Z (on (qn (Ab (Aa ?_))))))))))))))))))))))
 refine oj (mv Z Z (oj (G2 Z Z Z (on (qn ?_)))))
 refine C5 Z (fun ht0=>?_) (fun hf0=>?_)
 ·exact Ab (Aa (oj (mv Z Z (oj (Ak Z Z (oj (Ak Z Z (oj (Ak Z Z (on (qn (Af (qr (Ac (d:=8) (v:=iv (chB t.l)) Z (by rw [← chB_tk ht0]) (As () Z (.tmp Z (.tmp Z (.tmp Z .nil))) Z tR .slnil (fun w h=>tR) (.inl Z))))))))))))))))
 ·have hk:=tkE_iff.1 hf0
  refine Ah (qn (Ab (Aa (oj (Bx Z Z B1 (fun w h=>h.1.1) Z (oj (call Z Z (.cons Z .nil) fb_96 (of_spec t hl)  (fun w h=>⟨(h.2.1),tR⟩) ?_)))))))
  rintro ⟨rm,es_m,cl_m⟩ hm_m
  try dsimp only at hm_m
  try dsimp only
  refine oj (Ak Z Z (on (qn (Ab (Ab (Aa (oj (mv Z Z (oj (mv Z Z (oj (Id Z Z Z (oj (mlo Z Z Z Tryz.underlying160 Tryz.underlying3 zb_3 (fun w ho h=>⟨_,_,ho _ _ (.head _),hm_m⟩) (oj (mv Z Z (oj (ext Z Z Z (oj (ext Z Z Z (oj (Ak Z Z (oj (Ak Z Z (on ?_)))))))))))))))))))))))))
  refine qn (Ab (Aa (oj (mv Z Z (oj (Dd Z Z Z (oj (mv Z Z ?_))))))))
  refine B5 (d:=31) Z (fun ht=>?_) (fun hf=>?_)
  ·refine oj (gf Z Z Z Z Z Z (oj (gf Z Z Z Z Z Z (oj (Cl Z Z Z (oj (mv Z Z (oj (gf Z Z Z Z Z Z (oj (gf Z Z Z Z Z Z (oj (Gl Z Z Z Z Z (oj (Gl Z Z Z Z Z (oj (gf Z Z Z Z Z Z (oj (Cl Z Z Z (on (qn (Ap Z (fun _=>(Ab (Aa (oj (Ak Z Z ?_))))) (fun h=>by cases h)))))))))))))))))))))))
   exact oj (Ak Z Z (oj (Ak Z Z (on (qn (Af (qr (Ac (d:=8) (v:=iv (chB t.l)) Z (by rw [chB_ok hk]) (As () Z (.tmp Z (.tmp Z (.tmp Z .nil))) Z tR (Bl _) (fun w h=>tR) (.inl Z))))))))))
  ·refine oj (gt Z Z Z ((mv Z Z (oj (gt Z Z Z ((gei Z Z Z (oj (Df Z Z Z (oj (mv Z Z ?_)))))))))))
   refine B5 (d:=35) Z (fun ht=>?_) (fun hf=>?_)
   ·refine oj (gf Z Z Z Z Z Z (oj (gf Z Z Z Z Z Z (oj (Gl Z Z Z Z Z (oj (Gl Z Z Z Z Z (oj (gf Z Z Z Z Z Z (oj (Cl Z Z Z (on (qn (Ap Z (fun _=>(Ab (Aa (oj (Ak Z Z (oj (Ak Z Z (oj (Ak Z Z (on (qn ?_))))))))))) (fun h=>by cases h)))))))))))))))
    exact Af (qr (Ac (d:=8) (v:=iv (chB t.l)) Z (by rw [chB_ok hk]) (As () Z (.tmp Z (.tmp Z (.tmp Z .nil))) Z tR (Bl _) (fun w h=>tR) (.inl Z))))
   ·refine oj (gt Z Z Z ((mv Z Z (oj (gt Z Z Z ((mv Z Z (oj (gt Z Z Z ((mv Z Z (oj (gt Z Z Z ((not Z Z (oj (gt Z Z Z ((Cl Z Z Z (oj (Df Z Z Z (on (qn (Ap Z (fun ht=>(Ab (Aa ?_))) (fun hf=>absurd hf (fun h=>hc ⟨hk,Bu.2 ⟨by omega,by omega⟩,fun _=>by rw [Dr (by omega)] at h; simpa using h⟩))))))))))))))))))))))))))
    exact oj (Ak Z Z (oj (Ak Z Z (oj (Ak Z Z (on (qn (Af (qr (Ac (d:=8) (v:=iv (chB t.l)) Z (by rw [chB_ok hk]) (As () Z (.tmp Z (.tmp Z (.tmp Z .nil))) Z tR (Bl _) (fun w h=>tR) (.inl Z))))))))))))
theorem chg_okF (t:Tr) (hl:t.l.length≤1000000) (d:Int) (hc:Ie t.l d false):Ay Tryz.prog 129 [t.v,iv d,.bool false] [] (fun w=>t.F w∧True) (fun x:(Nat × Array MapEntry × Nat) × (Option Addr × Nat)=>⟨MapI x.1.2.1 x.1.2.2 (chF t.l d)∧(Dz d C8).length≤x.2.2,.tuple #[mpV x.1.1,.slice x.2.1 (Dz d C8).length x.2.2,iv 0],[mpE x.1.1 x.1.2.1 x.1.2.2],fun w=>Sl 1 (Dz d C8).length ((Dz d C8).flatMap fun x=>[iv x]) (.slice x.2.1 (Dz d C8).length x.2.2) w∧True⟩):=by
 refine Aj Tryz.func129 Z Z fun X w0=>?_
 obtain ⟨hk,hd0,hs⟩:=hc
 have hd:=Bu.1 hd0
 have hal:=alL_len d C8
 refine Ab (Aa (oj (C6 Z Z (fun r3=>(Al (Am 0 _ _ Z) ?_)))))
 try dsimp only [List.eraseIdx]
 refine oj (Ak Z Z (oj (Ak Z Z (oj (Ak Z Z (on (qn (Ab (Ab (Aa (oj (Bx Z Z B1 (fun w h=>h.1.1) Z (oj (Ao Z Z (.cons Z .nil) fb_114 (Gz t hl)  (fun w h=>⟨(h.2.1),tR⟩) Z (fun _=>(Ae (fun w h=>h.2) (oj (Ak Z Z (on (qn (Ab (Aa ?_))))))))))))))))))))))
 refine oj (mv Z Z (oj (G2 Z Z Z (on (qn (C5 Z (fun ht=>absurd ht (by simp [tkE_ok hk])) (fun hf=>(Ah (qn (Ab (Aa (oj (Bx Z Z B1 (fun w h=>h.1.1) Z (oj (call Z Z (.cons Z .nil) fb_96 (of_spec t hl)  (fun w h=>⟨(h.2.1),tR⟩) ?_)))))))))))))))
 rintro ⟨rm,es_m,cl_m⟩ hm_m
 try dsimp only at hm_m
 try dsimp only
 refine oj (Ak Z Z (on (qn (Ab (Ab (Aa (oj (mv Z Z (oj (mv Z Z (oj (Id Z Z Z (Ac (d:=25) (v:=iv (512+d)) Z (by rw [Dr (by omega)]) (oj (mlo Z Z Z Tryz.underlying160 Tryz.underlying3 zb_3 (fun w ho h=>⟨_,_,ho _ _ (.head _),hm_m⟩) (oj (mv Z Z (oj (ext Z Z Z (oj (ext Z Z Z (oj (Ak Z Z (oj (Ak Z Z ?_)))))))))))))))))))))))))
 refine on (qn (Ab (Aa (oj (mv Z Z (oj (Dd Z Z Z (oj (mv Z Z (B5 (d:=31) Z (fun ht=>absurd ht (by omega)) (fun hf=>(oj (gt Z Z Z ((mv Z Z (oj (gt Z Z Z ((gei Z Z Z (oj (Df Z Z Z (oj (mv Z Z (B5 (d:=35) Z (fun ht=>absurd ht (by omega)) (fun hf=>(oj (gt Z Z Z ?_)))))))))))))))))))))))))))
 refine (mv Z Z (oj (gt Z Z Z ((mv Z Z (oj (gf Z Z Z Z Z Z (oj (gf Z Z Z Z Z Z (oj (gt Z Z Z ((Df Z Z Z (oj (Df Z Z Z (on (qn (Ap Z (fun h=>by cases h) (fun _=>(Ah (qn (Ab (Aa (oj (mv Z Z ?_)))))))))))))))))))))))))
 refine oj (call Z Z (.cons Z .nil) fb_24 (path_spec d)  (fun w h=>tR) ?_)
 rintro ⟨pa,pc⟩ hpc
 try dsimp only at hpc
 try dsimp only
 refine oj (mv Z Z (oj (ext Z Z Z (oj (ext Z Z Z (oj (Ak Z Z (on (qn (Ab (Aa (oj (mv Z Z (oj (mkF Z (.cons Z .nil) .nil (oj (Ak Z Z (on (qn (Ab (Aa (oj (mv Z Z ?_)))))))))))))))))))))))
 refine oj (mv Z Z (oj (add Z Z Z (by omega) (oj (Ce Z Z (.cons Z .nil) fb_192 (blank_spec rm es_m cl_m _ hm_m (512+d)) (fun _=>.head) (fun _=>Z) (fun w h=>tR) ?_)))))
 rintro ⟨es_m,cl_m⟩ hm_m
 try dsimp only at hm_m
 try dsimp only
 try dsimp only at hm_m
 refine on (qn (Ab (Ab (Aa (oj (mv Z Z (oj (Bn Z Z Tryz.underlying31 Z (oj (mv Z Z (on (qn (Ag ?_)))))))))))))
 rw [← delK_nil (ofF t.l),delK_del,List.nil_append] at hm_m
 refine Aw (fun (sT:(Nat) × (Array MapEntry) × (Nat))=>(⟨sT.1≤(Dz d C8).length∧MapI sT.2.1 sT.2.2 (delK (ofF t.l) ((512+d)::(Dz d C8).take sT.1)),[(6,mpV rm),(7,.slice pa (Dz d C8).length pc),(12,.func (.func 192) #[mpV rm] #[]),(53,.slice pa (Dz d C8).length pc),(54,iv (Dz d C8).length),(55,iv (sT.1:Int))],[mpE rm sT.2.1 sT.2.2],fun w=>Sl 1 (Dz d C8).length ((Dz d C8).flatMap fun x=>[iv x]) (.slice pa (Dz d C8).length pc) w∧True,(Dz d C8).length-sT.1⟩:Hd)) (0,_,_) (⟨Nat.zero_le _,hm_m⟩) (⟨Z,Z,Z,Z,Z,Z,tR⟩) (.refl _) (fun w h=>⟨(h.2.1.1),tR⟩) ?_
 rintro ⟨j,es_m,cl_m⟩ ⟨hj,hm_m⟩
 try dsimp only
 try dsimp only at hj hm_m
 refine Ab (Aa (oj (Dd Z Z Z (on (qn (Ab ?_))))))
 refine A8 Z (fun ht=>?_) (fun hf=>?_)
 ·obtain ⟨x,hx⟩:∃ x,(Dz d C8)[j]? = some x:=⟨_,List.getElem?_eq_getElem (by omega)⟩
  refine Ah (qn (Ab (Ag (Ab (Aa (oj (Fc Z Z Z Tryz.underlying31 Ai (by omega) (fun w h=>Sl.some (h.1) (by omega)) (oj (A4 Z Z Ai (fun w h=>Sl.elem1 (h.1) (Dh hx)) (oj (Ak Z Z (on (qn (Aa (oj (mv Z Z (oj (mv Z Z (oj (Ce Z Z (.cons Z .nil) fb_192 (blank_spec rm es_m cl_m _ hm_m x) (fun _=>.head) (fun _=>Z) (fun w h=>tR) ?_))))))))))))))))))))
  rintro ⟨es_m,cl_m⟩ hm_m
  try dsimp only at hm_m
  try dsimp only
  refine on (bn (qn (Aa (oj (add Z Z Z (by omega) (oj (mv Z Z (on (qn ?_)))))))))
  try dsimp only at hm_m
  rw [delK_del] at hm_m
  exact Ar (j+1,es_m,cl_m) (by dsimp only; omega) (⟨by (try dsimp only); omega,by rw [A7 hx]; exact hm_m⟩) (⟨Z,Z,Z,Z,Z,Z,tR⟩) (.refl _) (fun w h=>⟨(h.2.1),tR⟩)
 ·have h4:j=(Dz d C8).length:=by omega
  subst h4
  rw [List.take_length] at hm_m
  exact A1 (qe (qe (be (qn (Ab (Aa (oj (mv Z Z (oj (mv Z Z (oj (Ak Z Z (oj (Ak Z Z (oj (Ak Z Z (on (qn (Af (As ((rm,es_m,cl_m),(pa,pc)) Z (.tmp Z (.tmp Z (.tmp Z .nil))) Z ⟨hm_m,hpc⟩ (.refl _) (fun w h=>⟨(h.1),tR⟩) (.inl Z)))))))))))))))))))))
theorem chg_badF (t:Tr) (hl:t.l.length≤1000000) (d:Int) (hc : ¬ Ie t.l d false):Ay Tryz.prog 129 [t.v,iv d,.bool false] [] (fun w=>t.F w∧True) (fun _:Unit=>⟨True,.tuple #[.map none,.slice none 0 0,iv (chB t.l)],[],fun _=>True⟩):=by
 refine Aj Tryz.func129 Z Z fun X w0=>(Ab (Aa (oj (C6 Z Z (fun r3=>(Al (Am 0 _ _ Z) ?_))))))
 try dsimp only [List.eraseIdx]
 refine oj (Ak Z Z (oj (Ak Z Z (oj (Ak Z Z (on (qn (Ab (Ab (Aa (oj (Bx Z Z B1 (fun w h=>h.1.1) Z (oj (Ao Z Z (.cons Z .nil) fb_114 (Gz t hl)  (fun w h=>⟨(h.2.1),tR⟩) Z (fun _=>(Ae (fun w h=>h.2) (oj (Ak Z Z (on (qn (Ab (Aa ?_))))))))))))))))))))))
 refine oj (mv Z Z (oj (G2 Z Z Z (on (qn ?_)))))
 refine C5 Z (fun ht0=>?_) (fun hf0=>?_)
 ·exact Ab (Aa (oj (mv Z Z (oj (Ak Z Z (oj (Ak Z Z (oj (Ak Z Z (on (qn (Af (qr (Ac (d:=8) (v:=iv (chB t.l)) Z (by rw [← chB_tk ht0]) (As () Z (.tmp Z (.tmp Z (.tmp Z .nil))) Z tR .slnil (fun w h=>tR) (.inl Z))))))))))))))))
 ·have hk:=tkE_iff.1 hf0
  refine Ah (qn (Ab (Aa (oj (Bx Z Z B1 (fun w h=>h.1.1) Z (oj (call Z Z (.cons Z .nil) fb_96 (of_spec t hl)  (fun w h=>⟨(h.2.1),tR⟩) ?_)))))))
  rintro ⟨rm,es_m,cl_m⟩ hm_m
  try dsimp only at hm_m
  try dsimp only
  refine oj (Ak Z Z (on (qn (Ab (Ab (Aa (oj (mv Z Z (oj (mv Z Z (oj (Id Z Z Z (oj (mlo Z Z Z Tryz.underlying160 Tryz.underlying3 zb_3 (fun w ho h=>⟨_,_,ho _ _ (.head _),hm_m⟩) (oj (mv Z Z (oj (ext Z Z Z (oj (ext Z Z Z (oj (Ak Z Z (oj (Ak Z Z (on ?_)))))))))))))))))))))))))
  refine qn (Ab (Aa (oj (mv Z Z (oj (Dd Z Z Z (oj (mv Z Z ?_))))))))
  refine B5 (d:=31) Z (fun ht=>?_) (fun hf=>?_)
  ·refine oj (gf Z Z Z Z Z Z (oj (gf Z Z Z Z Z Z (oj (Cl Z Z Z (oj (mv Z Z (oj (gf Z Z Z Z Z Z (oj (gf Z Z Z Z Z Z (oj (Gl Z Z Z Z Z (oj (Gl Z Z Z Z Z (oj (gf Z Z Z Z Z Z (oj (Cl Z Z Z (on (qn (Ap Z (fun _=>(Ab (Aa (oj (Ak Z Z ?_))))) (fun h=>by cases h)))))))))))))))))))))))
   exact oj (Ak Z Z (oj (Ak Z Z (on (qn (Af (qr (Ac (d:=8) (v:=iv (chB t.l)) Z (by rw [chB_ok hk]) (As () Z (.tmp Z (.tmp Z (.tmp Z .nil))) Z tR (Bl _) (fun w h=>tR) (.inl Z))))))))))
  ·refine oj (gt Z Z Z ((mv Z Z (oj (gt Z Z Z ((gei Z Z Z (oj (Df Z Z Z (oj (mv Z Z (B5 (d:=35) Z (fun ht=>(oj (gf Z Z Z Z Z Z (oj (gf Z Z Z Z Z Z (oj (Gl Z Z Z Z Z (oj (Gl Z Z Z Z Z (oj (gf Z Z Z Z Z Z (oj (Cl Z Z Z (on (qn (Ap Z (fun _=>?_) (fun h=>by cases h))))))))))))))))) (fun hf=>absurd hf (fun h=>hc ⟨hk,Bu.2 ⟨by omega,by omega⟩,by simp⟩))))))))))))))
   exact Ab (Aa (oj (Ak Z Z (oj (Ak Z Z (oj (Ak Z Z (on (qn (Af (qr (Ac (d:=8) (v:=iv (chB t.l)) Z (by rw [chB_ok hk]) (As () Z (.tmp Z (.tmp Z (.tmp Z .nil))) Z tR (Bl _) (fun w h=>tR) (.inl Z))))))))))))))
end Go.Chx
