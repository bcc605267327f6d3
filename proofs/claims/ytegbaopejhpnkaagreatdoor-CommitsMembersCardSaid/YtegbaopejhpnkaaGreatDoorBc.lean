/- Part of the proof that the law CommitsMembers holds. -/
import Derived.Test.YtegbaopejhpnkaaGreatDoorAa
import Derived.Test.YtegbaopejhpnkaaGreatDoorAh
import Derived.Test.YtegbaopejhpnkaaGreatDoorAk
import Derived.Test.YtegbaopejhpnkaaGreatDoorAp
import Derived.Test.YtegbaopejhpnkaaGreatDoorAr
import Derived.Test.YtegbaopejhpnkaaGreatDoorAx
import Derived.Test.YtegbaopejhpnkaaGreatDoorBb
namespace Go.Chx
open Go Go.Proofs
set_option maxHeartbeats 1000000
set_option maxRecDepth 4000
theorem ex_vals (lb:List UInt8) (ns:List Int):vals (rvT lb::ns.map D6)=.text lb::ns.map .int:=by
 simp only [vals,vals_int]; rfl
theorem ex_sok (lb:List UInt8) (ns:List Int) (w:World):Bo (rvT lb::ns.map D6) w:=Bo.of fun v hv=>by
 rcases List.mem_cons.1 hv with rfl | hv
 ·exact tR
 ·obtain ⟨n,_,rfl⟩:=List.mem_map.1 hv; exact trivial
theorem F5 (k:Dig) (lb:List UInt8) (ns:List Int) (na:Option Addr) (nc:Nat) (hl:lb.length≤1000) (hn:ns.length≤1000) (hi:∀ n∈ns,i64 n):Ay Tryz.prog 83 [dv k,.string (Iq lb),.slice na ns.length nc] [] (fun w=>Sl 1 ns.length (ns.flatMap (fun x=>[iv x])) (.slice na ns.length nc) w∧De 1 (Av .u32 B9) w∧De 3 (Av .u32 D1) w∧True) (fun _:Unit=>⟨True,dv (Eh k lb ns),[],fun _=>True⟩):=by
 refine Aj Tryz.func83 Z Z fun X w0=>?_
 have hlen:=ex_len hl hn hi
 refine Ab (Aa (oj (Gx Z Z (fun r3=>(Al (Am 0 _ _ Z) ?_)))))
 try dsimp only [List.eraseIdx]
 refine oj (C7 Z Ge (fun r6=>(on (qn (Ab (Aa (oj (mv Z Z (oj (bld Z J7 (Ch Z Z (.head Z) (Ch Z Z (.tail (.tail (.head Z))) .nil)) (oj (F7 Z Tryz.underlying59 Bi Cc (.agg (s:=vS (rvT lb)) Z .nil) (by repeat (first | exact List.forall_mem_nil _ | refine List.forall_mem_cons.2 ⟨rfl,?_⟩)) Z (by decide) Z (fun b=>?_)))))))))))))
 refine oj (Ak Z Z (on (qn (Ab (Ab (Aa (oj (mv Z Z (oj (Bn Z Z Tryz.underlying31 Z (oj (mv Z Z (on (qn (Ag (Aw (fun (sT:(Nat) × (Value) × (A9))=>(⟨sT.1≤ns.length∧Own 61 4 sT.2.1 (rvT lb::(ns.take sT.1).map D6).length ((rvT lb::(ns.take sT.1).map D6).flatMap RV.cells) sT.2.2,[(3,Bg r3 0),(6,Bg r6 0),(7,sT.2.1),(16,.slice na ns.length nc),(17,iv ns.length),(18,iv (sT.1:Int))],[sT.2.2,bx r6 z_67 67],fun w=>Sl 1 ns.length (ns.flatMap (fun x=>[iv x])) (.slice na ns.length nc) w∧De 1 (Av .u32 B9) w∧De 3 (Av .u32 D1) w∧Bc r3 [sd k] 67 w∧True,ns.length-sT.1⟩:Hd)) (0,.slice (some ⟨b,0,none⟩) 1 1,bx b [vS (rvT lb)] 61) (⟨Nat.zero_le _,.row (cur:=flat [vS (rvT lb)]) (by decide) (by decide) Z Z⟩) (⟨Z,Z,Z,Z,Z,Z,tR⟩) (.refl _) (fun w h=>⟨(h.2.1),(h.2.2.1),(Cu h),(h.1.1),tR⟩) ?_))))))))))))))))
 rintro ⟨i,v,en⟩ ⟨hi1,ho⟩
 try dsimp only
 try dsimp only at hi1 ho
 refine Ab (Aa (oj (Dd Z Z Z (on (qn (Ab ?_))))))
 refine A8 Z (fun ht=>?_) (fun hf=>?_)
 ·obtain ⟨x,hx⟩:∃ x,ns[i]? = some x:=⟨_,List.getElem?_eq_getElem (by omega)⟩
  refine Ah (qn (Ab (Ag (Ab (Aa (oj (Fc Z Z Z Tryz.underlying31 Ai (by omega) (fun w h=>Sl.some (h.1) (by omega)) (oj (A4 Z Z Ai (fun w h=>Sl.elem1 (h.1) (Dh hx)) (oj (Ak Z Z (on (qn (Aa (oj (mv Z Z (oj (mv Z Z (oj (bld Z J7 (Ch Z Z (.head Z) (Ch Z Z (.tail (.head Z)) .nil)) (oj (F7 Z Tryz.underlying59 Bi Cc (.agg (s:=vS (D6 x)) Z .nil) (by repeat (first | exact List.forall_mem_nil _ | refine List.forall_mem_cons.2 ⟨rfl,?_⟩)) Z (by decide) Z (fun r25=>?_)))))))))))))))))))))))
  refine Al (Am 0 _ _ Z) ?_
  try dsimp only [List.eraseIdx]
  refine oj (Ku Z Z Z el_59 (by kernel_rfl) ho (i:=0) Z (fun w ho h=>Bc.src (h.1.1) Z) (by simp only [List.length_cons,List.length_map,List.length_take]; omega) (by simp only [List.length_cons,List.length_map,List.length_take,maxLen]; omega) (fun v26 e26 ho26=>?_))
  try dsimp only [List.set]
  exact oj (Ak Z Z (on (bn (qn (Aa (oj (add Z Z Z (by omega) (oj (mv Z Z (on (qn (Ar (i+1,v26,e26) (by dsimp only; omega) (⟨by (try dsimp only); omega,by rw [A7 hx,List.map_append,← List.cons_append]; show Own 61 4 v26 ((rvT lb::(ns.take i).map D6)++[D6 x]).length (((rvT lb::(ns.take i).map D6)++[D6 x]).flatMap RV.cells) e26; rw [Dj,List.length_append]; exact ho26⟩) (⟨Z,Z,Z,Z,Z,Z,tR⟩) (.refl _) (fun w h=>⟨(h.2.1),(h.2.2.1),(Cu h),(Dw h),tR⟩)))))))))))))
 ·have h4:i=ns.length:=by omega
  subst h4
  rw [List.take_length] at ho
  obtain ⟨va,vc,rfl,hvc⟩:=ho.shape'
  refine A1 (qe (qe (be (qn (Ab (Aa (oj (mv Z Z (oj (bld Z J7 (Ch Z Z (.head Z) (Ch Z Z (.tail (.tail (.tail (.head Z)))) .nil)) (Ac (d:=30) (v:=vA (.list (rvT lb::ns.map D6) va vc)) Z (by rfl) (By (i:=0) Z ho (Do Jp _) ?_))))))))))))
  try dsimp only [List.eraseIdx]
  refine oj (call Z Z (.cons Z .nil) fb_63 (encode_spec (.list (rvT lb::ns.map D6) va vc) (by show (Val.list (vals _)).ok; rw [ex_vals]; exact ex_ok hl hn hi) (by show (Val.list (vals _)).dep≤_; rw [ex_vals]; exact ex_dep lb ns) (by show (enc (Val.list (vals _))).length≤_; rw [ex_vals]; omega))  (fun w h=>⟨⟨(h.1.1),ex_sok lb ns w⟩,tR⟩) ?_)
  rintro ⟨ea,ec⟩ hec
  try dsimp only at hec
  try dsimp only
  have hev:enc (RV.val (.list (rvT lb::ns.map D6) va vc))=(enc (.list (.text lb::ns.map .int))):=by show enc (.list (vals _))=_; rw [ex_vals]
  rw [hev] at hec ⊢
  refine oj (mv Z Z (oj (ext Z Z Z (oj (ext Z Z Z (oj (Ak Z Z (oj (Ak Z Z (on (qn (Ab (Aa (oj (C7 Z zok_224 (fun q=>(on (qn (Ab (Aa (oj (Bx Z Z Bb (fun w h=>(Ez h)) Z (Ac (d:=34) (v:=dv k) Z (by exact av1 _) ?_)))))))))))))))))))))))
  refine Cn (l':=[bfE q none 0 0,bx r6 z_67 67]) (.refl _) (oj (Hl Z Z (.cons Z (.cons Z .nil)) fb_159 (.refl _) (ikey_nil q k) (fun w h=>tR) ?_))
  rintro g ⟨hg,hgc⟩
  try dsimp only
  refine oj (Cq Z Z (oj (A2 (o':=0) Z Z Kn ty_222 Z (oj (mv Z Z (oj (Hl Z Z (.cons Z (.cons Z .nil)) fb_160 (.refl _) (bwrite_any q k.b g hg (enc (.list (.text lb::ns.map .int))) ea ec hlen.1 (Iw k).1 (by omega) (by rw [k.h]; omega) (by rw [k.h]; omega)) (fun w h=>⟨(h.2.1.1),tR⟩) ?_)))))))
  rintro j hj
  try dsimp only
  refine on (qn (Ab (Aa (oj (Hl Z Z (.cons Z (.cons Z .nil)) fb_161 (.refl _) (iunder_spec q (k.b++(enc (.list (.text lb::ns.map .int)))) j hj lbDerive (by decide) (by rw [List.length_append,k.h]; omega)) (fun w h=>⟨(Ez h),(Ec h),tR⟩) ?_)))))
  rintro ⟨⟩ _
  try dsimp only
  exact oj (Cf Z Z Bb Z .head (.head Z) Z (on (qn (Af (As () Z (Hk Z Bb (.head _) Z .nil) Z tR (Bl _) (fun w h=>tR) (.inl Z))))))
theorem dscalar_spec (k:Dig) (lb:List UInt8) (hl:lb.length≤1000):Ay Tryz.prog 95 [dv k,.string (Iq lb)] [] (fun w=>De 1 (Av .u32 B9) w∧De 3 (Av .u32 D1) w∧True) (fun _:Unit=>⟨True,iv (scK k lb:Nat),[],fun _=>True⟩):=by
 refine Aj Tryz.func95 Z Z fun X w0=>(Ab (Aa (oj (Gx Z Z (fun r2=>(Al (Am 0 _ _ Z) ?_))))))
 try dsimp only [List.eraseIdx]
 refine oj (Ak Z Z (on (qn (Ab (Aa (oj (Bx Z Z Bb (fun w h=>h.1.1) Z (Ac (d:=6) (v:=dv k) Z (by exact av1 _) (oj (mv Z Z (oj (Ao Z Z (.cons Z (.cons Z (.cons Z .nil))) fb_83 (F5 k lb [] none 0 hl (by simp) (by simp))  (fun w h=>⟨Be,(h.2.1),(h.2.2.1),tR⟩) Z (fun _=>(Ae (fun w h=>h.2) (oj (C7 Z Ge (fun r5=>(oj (Cf Z Z Bb Z .head (.head Z) Z (on (qn (Ab (Aa ?_)))))))))))))))))))))))
 refine Al (Am 0 _ _ Z) ?_
 try dsimp only [List.eraseIdx]
 exact oj (slp Z Z Tryz.underlying67 Bv Z Z (.inl Z) Z (Ac (d:=9) (v:=.slice (some ⟨r5,0,none⟩) (Eh k lb []).b.length 32) Z (by rw [(Eh k lb []).h]; simp [Addr.add]) (oj (Ao Z Z (.cons Z (.cons Z .nil)) fb_171 (scalar_spec _ (by decide) (Eh k lb []).b (some ⟨r5,0,none⟩) 32 (by rw [(Eh k lb []).h]; decide) (by rw [(Eh k lb []).h]; decide))  (fun w h=>⟨Gs (h.1.1),(h.2.2.1),(Cu h),tR⟩) Z (fun _=>(Ae (fun w h=>h.2) (oj (Ak Z Z (on (qn (Af (As () Z (.tmp Z .nil) Z tR .slnil (fun w h=>tR) (.inl Z)))))))))))))
theorem mix_spec (lb:List UInt8) (hl:lb.length≤1000) (a b:Dig):Ay Tryz.prog 97 [.string (Iq lb),dv a,dv b] [] (fun w=>De 1 (Av .u32 B9) w∧De 3 (Av .u32 D1) w∧True) (fun _:Unit=>⟨True,dv (mixK lb a b),[],fun _=>True⟩):=by
 refine Aj Tryz.func97 Z Z fun X w0=>(Ab (Aa (oj (Gx Z Z (fun r4=>(Al (Am 0 _ _ Z) ?_))))))
 try dsimp only [List.eraseIdx]
 refine oj (Gx Z Z (fun r5=>(Al (Am 0 _ _ Z) ?_)))
 try dsimp only [List.eraseIdx]
 refine oj (C7 Z Ge (fun r6=>(on (qn (Ab (Aa (oj (C7 Z zok_224 (fun q=>(Cn (l':=[bfE q none 0 0,bx r6 z_67 67]) (.refl _) (on (qn (Ab (A5 mo (Cn (Am 0 _ _ Z).symm ?_)))))))))))))))
 try dsimp only [List.eraseIdx]
 refine Fp (dj_upd [0,4,6,1,2,3,5] (fun j=>Nat.beq j 1 || Nat.beq j 3 || Nat.beq j 5) (by kernel_rfl) Z Z (.det _ (fun Q K R m k=>(mv Z Z k)) (.det (dv a) (fun Q K R m k=>(Bx Z Z Bb (fun w h=>h.1.2.1.1) Z (B8 (av1 _) k))) (.det (dv b) (fun Q K R m k=>(Bx Z Z Bb (fun w h=>h.1.1.1) Z (B8 (av1 _) k))) (.up _ _ (fun _=>_) _ Z (fun Q K R k=>cvsbB Z Z Tryz.underlying9 Tryz.underlying53 Tryz.underlying5 (fun x hx=>Ae (fun w h=>⟨⟨h.1,h.2.1⟩,h.2.2⟩) (k x hx))) ?_)))))
 rintro ⟨a9,c9⟩ hc9
 try dsimp only
 refine .det _ (fun Q K R m k=>(Ao Z Z (.cons Z .nil) fb_172 (sum_spec lb a9 c9 hc9 (by omega))  (fun w h=>⟨(h.1.1.1),(Cu h.1),(Dw h.1),tR⟩) Z (fun _=>Ae (fun w h=>h.2) k))) (.up _ _ _ _ Z (fun Q K R k=>callEL Z Z (.cons Z (.cons Z .nil)) fb_159 (ikey_nil q (sha lb)) (fun _=>Z) (fun w h=>tR) (fun x hx=>Ae (fun w h=>⟨⟨h.1,h.2.1⟩,h.2.2⟩) (k x hx))) ?_)
 rintro g ⟨hg,hgc⟩
 try dsimp only
 refine .up _ _ _ _ Z (fun Q K R k=>callEL Z Z (.cons Z (.cons Z .nil)) fb_159 (ikey_fit q (sha lb).b g hg a (by rw [(sha lb).h]; omega)) (fun _=>Z) (fun w h=>tR) (fun x hx=>Ae (fun w h=>⟨⟨h.1,h.2.1⟩,h.2.2⟩) (k x hx))) ?_
 rintro g2 ⟨hg2,hgc2⟩
 try dsimp only
 refine .nil ?_
 try dsimp only [List.nil_append,List.cons_append]
 refine Ad 7 ((Hl Z Z (.cons Z (.cons Z .nil)) fb_159 ((List.perm_append_comm (l₁:=[_]) (l₂:=bfL q _ _))) (ikey_any q ((sha lb).b++a.b) g2 hg2 b (by rw [List.length_append,(sha lb).h,a.h]; decide) (by rw [List.length_append,(sha lb).h,a.h]; decide) (by omega) (by rw [List.length_append,(sha lb).h,a.h]; omega)) (fun w h=>tR) ?_))
 rintro g3 hg3
 try dsimp only
 refine Ad 8 ((Hl Z Z (.cons Z (.cons Z .nil)) fb_161 (.refl _) (iunder_spec q ((sha lb).b++a.b++b.b) g3 hg3 lbMix (by decide) (by rw [List.length_append,List.length_append,(sha lb).h,a.h,b.h]; decide)) (fun w h=>⟨(Ec h),(Fg h),tR⟩) ?_))
 rintro ⟨⟩ _
 try dsimp only
 exact Ad 9 ((Cf Z Z Bb Z .head (.head Z) Z (A6 (qn (Af (As () Z (Hk Z Bb (.head _) Z .nil) Z tR (Bl _) (fun w h=>tR) (.inl Z)))))))
def labs:List (List UInt8):=[lbInit,lbCommit,lbChild]
theorem rising_it (leaf:Dig) (r1 r2:Nat):Fd Tryz.prog 169 [] [Bg r1 0,Bg r2 0] [bx r1 [S1 (iv 0)] 3,bx r2 [sd leaf] 67] (fun w=>De 1 (Av .u32 B9) w∧De 3 (Av .u32 D1) w∧True) (fun x:Dig=>[dv x])  ((· = Ef leaf)):=by
 intro y σ Ps L J T s0 hs0 hY
 refine Aj Tryz.func169 Z Z fun X w0=>Ae (fun w h=>(h:J s0 w∧(fun w=>De 1 (Av .u32 B9) w∧De 3 (Av .u32 D1) w∧True) w)) (Ag (Aw (fun (sT:(Nat) × (σ))=>(⟨Ps sT.2∧sT.1≤10∧Run T ((Ef leaf).take sT.1) s0 sT.2,[(0,.func (.yield y) #[] #[]),(1,Bg r1 0),(2,Bg r2 0)],([bx r1 [S1 (iv (sT.1:Int))] 3,bx r2 [sd (D8 leaf sT.1)] 67]++L sT.2),fun w=>J sT.2 w∧De 1 (Av .u32 B9) w∧De 3 (Av .u32 D1) w∧True,10-sT.1⟩:Hd)) (0,s0) (⟨hs0,by omega,.nil⟩) (⟨Z,Z,Z,tR⟩) (.cons_cons _ (.cons_cons _ (.refl _))) (fun w h=>⟨(h.1),(h.2.1),(h.2.2.1),tR⟩) ?_))
 rintro ⟨i,s⟩ ⟨hs,hi,hr⟩
 try dsimp only
 try dsimp only at hs hi hr
 refine Ab (Ab (Aa (oj (Bh Z Z Ai (.head _) (Z) (oj (lei Z Z Z (on (qn ?_))))))))
 refine A8 Z (fun ht=>?_) (fun hf=>?_)
 ·refine Ah (qn (Ab (Ag (Ab (Ab (Aa (oj (mv Z Z (oj (Js Z Z Bb (.tail _ (.head _)) Z Z (Ac (d:=9) (v:=dv (D8 leaf i)) Z (by rfl) (oj (yldr (own:=[_,_]) hY (x:=D8 leaf i) ⟨_,(Ef leaf).drop (i+1),hr,tk_split (ladL_at (by omega))⟩ hs Z Z (.cons Z .nil) Z (fun w h=>(h.1)) (fun s2 hP hT=>?_))))))))))))))
  try dsimp only [List.cons_append,List.nil_append]
  refine kj_J (oj (not Z Z (on (qn (Ap Z (fun h=>by cases h) (fun _=>(Ah (qn (Aa (oj (Js Z Z Bb (.tail _ (.head _)) Z Z (Ac (d:=12) (v:=dv (D8 leaf i)) Z (by rfl) (oj (Ao Z Z (.cons Z (.cons Z (.cons Z .nil))) fb_83 (F5 (D8 leaf i) lbPath [] none 0 (by decide) (by simp) (by simp))  (fun w h=>⟨Be,(h.2.2.1),(Cu h),tR⟩) Z (fun _=>(Ae (fun w h=>h.2) (oj (Cf Z Z Bb Z (.tail .head) (.head Z) Z (on (bn (qn ?_)))))))))))))))))))))
  exact Aa (oj (Bh Z Z Ai (.head _) (Z) (oj (add Z Z Z (by omega) (Ac (d:=7) (v:=iv ((i+1:Nat):Int)) Z (by rfl) (oj (Cr Z Z Ai Z .head (.head Z) Z (on (qn (Ar (i+1,s2) (by dsimp only; omega) (⟨hP,by omega,by rw [A7 (ladL_at (by omega))]; exact hr.snoc hT⟩) (⟨Z,Z,Z,tR⟩) (.cons_cons _ (.cons_cons _ (.refl _))) (fun w h=>⟨(h.1.1),(h.2.2.1),(Cu h),tR⟩)))))))))))
 ·exact A1 (qe (qe (be (As s Z .nil Z ⟨hs,_,Z,by rw [List.take_of_length_le (by rw [Ji]; omega)] at hr; exact hr⟩ (.cons _ (.cons _ (.refl _))) (fun w h=>(h.1)) (.inr Z)))))
theorem rising_spec (leaf:Dig):Ay Tryz.prog 90 [dv leaf,iv 0] [] (fun _=>True) (fun x:Nat × Nat=>⟨True,.func (.func 169) #[] #[Bg x.1 0,Bg x.2 0],[bx x.1 [S1 (iv 0)] 3,bx x.2 [sd leaf] 67],fun _=>True⟩):=by
 exact Aj Tryz.func90 Z Z fun X w0=>(Ab (Aa (oj (Gx Z Z (fun r2=>(oj (box1 Z Z Z (fun r3=>(oj (Ak Z Z (on (qn (Ab (Aa (oj (mkF Z .nil (.cons Z (.cons Z .nil)) (oj (Ak Z Z (on (qn (Af (As (r3,r2) Z (.tmp Z .nil) Z tR (.refl _) (fun w h=>tR) (.inl Z)))))))))))))))))))))))
theorem appseqK_spec (g:FuncId) (fs cs:List Value) (W:List A9) (I0:World→Prop) (G:List Dig→Prop) (N:Nat) (hN:N≤1000000) (hG0:∀ xs,G xs→xs.length≤N) (hg:Aq Tryz.prog g=true) (it:Fd Tryz.prog g fs cs W I0 (fun x:Dig=>[dv x]) G):Ay Tryz.prog 168 [.slice none 0 0,.func (.func g) fs.toArray cs.toArray] W (fun w=>I0 w∧True) (fun x:Value × A9 × List Dig=>⟨G x.2.2∧Own 67 32 x.1 x.2.2.length (x.2.2.flatMap fun x:Dig=>An x.b) x.2.1,x.1,[x.2.1],fun _=>True⟩):=by
 refine Dv Tryz.func168 Z Z fun X w0=>(Cx (Ab (Aa (oj (box1 Z Z Z (fun r2=>(oj (Ak Z Z (on (qn (Ab (Ab (Aa (oj (mv Z Z (on (qn (Ag (Cn (l':=W++[_,_]) List.perm_append_comm ?_)))))))))))))))))))
 refine Hr Z Z hg (it) (fun (sT:(List Dig) × (Nat) × (Option Addr) × (Nat) × (A9))=>(⟨Own 67 32 (.slice sT.2.2.1 sT.2.1 sT.2.2.2.1) sT.2.1 (sT.1.flatMap fun x=>An x.b) sT.2.2.2.2∧sT.2.1=sT.1.length,[],[bx r2 [S1 (.slice sT.2.2.1 sT.2.1 sT.2.2.2.1)] 71,sT.2.2.2.2],fun _=>True,0⟩:Hd)) (fun s x s'=>s'.1=s.1++[x]) (([],0,none,0,none)) (⟨.nil,Z⟩) (List.Sublist.append_left (.refl _) W) (fun w h=>(h.1)) (fun w h=>tR) (fun _=>⟨Z,Z⟩) ?_ ?_
 ·rintro ⟨us,n,va,vc,en⟩ x ⟨ho,hn⟩ ⟨ys,zs,hrn,hG⟩ rl rd fn tm X1 w1
  try dsimp only [List.cons_append,List.nil_append]
  try dsimp only at ho hn ys zs hrn hG
  have hxs:=run_map (g:=fun s:List Dig × Nat × Option Addr × Nat × A9=>s.1) (f:=id) (fun _ _ _ h=>h) hrn
  dsimp only at hxs hG
  rw [List.nil_append,List.map_id] at hxs
  have hxl:n < N:=by
   rw [hn,hxs]
   have h1:=hG0 _ hG
   simp only [List.length_append,List.length_cons] at h1
   omega
  refine Aa (oj (C7 Z Ge (fun r5=>(oj (Cf Z Z Bb Z .head (.head Z) Z (on (qn (Fy (.tail (.tail (.tail .head))) (Ag (Aa (oj (Bh Z Z ty_71 (.tail _ (.head _)) (Z) (oj (Js Z Z Bb (.head _) Z Z (oj (F7 Z Tryz.underlying71 Bb Ge (.agg (s:=sd x) Z .nil) (by repeat (first | exact List.forall_mem_nil _ | refine List.forall_mem_cons.2 ⟨rfl,?_⟩)) Z (by decide) Z (fun r10=>?_)))))))))))))))))
  refine Al (Am 0 _ _ Z) ?_
  try dsimp only [List.eraseIdx]
  refine oj (Ku Z Z Z el_71 (by kernel_rfl) ho (i:=2) Z (fun w ho h=>Bc.src (h.1.1) (by rw [Ib]; exact (sd x).h)) (by omega) (by simp only [maxLen]; omega) (fun v11 e11 ho11=>?_))
  try dsimp only [List.set]
  obtain ⟨va11,vc11,hv11,hc11⟩:=ho11.shape'
  subst hv11
  exact oj (Cr Z Z ty_71 Z (.tail .head) (.head Z) Z (on (bn (Ik ((us++[x],n+1,va11,vc11,e11)) (.tail (.tail (.tail .head))) Z (⟨⟨by rw [Dj]; rw [Ib] at ho11; exact ho11,by simp [hn]⟩,Z⟩) (.cons _ (.refl _)) (fun w h=>tR)))))
 ·rintro ⟨us,n,va,vc,en⟩ rd2 ⟨ho,hn⟩ ⟨xs,hG,hrun⟩
  try dsimp only [List.cons_append,List.nil_append]
  try dsimp only at ho hn hG hrun
  have hxs:=run_map (g:=fun s:List Dig × Nat × Option Addr × Nat × A9=>s.1) (f:=id) (fun _ _ _ h=>h) hrun
  dsimp only at hxs
  rw [List.nil_append,List.map_id] at hxs
  subst hn
  exact bn (qn (Ab (Aa (oj (Bh Z Z ty_71 (.tail _ (.head _)) (Z) (oj (Ak Z Z (on (qn (Af (retM (ds:=[rd2]) (.slice va us.length vc,en,us) Z (.refl _) Z (.tmp Z .nil) Z ⟨by (try dsimp only); rw [hxs]; exact hG,ho⟩ (.cons _ (.refl _)) (fun w h=>tR) (.inl Z))))))))))))
theorem collectK_spec (g:FuncId) (fs cs:List Value) (W:List A9) (I0:World→Prop) (G:List Dig→Prop) (N:Nat) (hN:N≤1000000) (hG0:∀ xs,G xs→xs.length≤N) (hg:Aq Tryz.prog g=true) (it:Fd Tryz.prog g fs cs W I0 (fun x:Dig=>[dv x]) G):Ay Tryz.prog 89 [.func (.func g) fs.toArray cs.toArray] W (fun w=>I0 w∧True) (fun x:Value × A9 × List Dig=>⟨G x.2.2∧Own 67 32 x.1 x.2.2.length (x.2.2.flatMap fun x:Dig=>An x.b) x.2.1,x.1,[x.2.1],fun _=>True⟩):=by
 refine Aj Tryz.func89 Z Z fun X w0=>(Ab (Aa (oj (Ak Z Z (on (qn (Ab (Aa (oj (mv Z Z (oj (Hl Z Z (.cons Z (.cons Z .nil)) fb_168 (by rw [List.append_nil]) (appseqK_spec g fs cs W I0 G N hN hG0 hg it) (fun w h=>⟨(h.1),tR⟩) ?_))))))))))))
 rintro ⟨v,en,us⟩ ⟨h1,h2⟩
 try dsimp only at h1 h2
 try dsimp only
 exact oj (Ak Z Z (on (qn (Af (As (v,en,us) Z (.tmp Z .nil) Z ⟨h1,h2⟩ (.refl _) (fun w h=>tR) (.inl Z))))))
theorem fmK_one (xs:List Dig):(xs.flatMap fun x:Dig=>An x.b).all (·.oneCell')=true:=Do (fun x=>Co x.b) xs
theorem ladder_spec (leaf:Dig):Ay Tryz.prog 23 [dv leaf] [] (fun w=>De 1 (Av .u32 B9) w∧De 3 (Av .u32 D1) w∧True) (fun x:Option Addr × Nat=>⟨(Ef leaf).length≤x.2,.slice x.1 (Ef leaf).length x.2,[],fun w=>Sl 32 (Ef leaf).length ((Ef leaf).flatMap fun x:Dig=>An x.b) (.slice x.1 (Ef leaf).length x.2) w∧True⟩):=by
 refine Aj Tryz.func23 Z Z fun X w0=>(Ab (Aa (oj (Gx Z Z (fun r1=>(Al (Am 0 _ _ Z) ?_))))))
 try dsimp only [List.eraseIdx]
 refine oj (Ak Z Z (on (qn (Ab (Aa (oj (Bx Z Z Bb (fun w h=>h.1.1) Z (Ac (d:=3) (v:=dv leaf) Z (by exact av1 _) (oj (call Z Z (.cons Z (.cons Z .nil)) fb_90 (rising_spec leaf)  (fun w h=>tR) ?_))))))))))
 rintro ⟨q1,q2⟩ _
 try dsimp only
 refine oj (Hl Z Z (.cons Z .nil) fb_89 (.refl _) (collectK_spec 169 [] [Bg q1 0,Bg q2 0] _ _ (· = Ef leaf) 10 (by omega) (fun xs h=>by rw [h,Ji]; omega) fb_169 (rising_it leaf q1 q2)) (fun w h=>⟨⟨(h.2.2.1),(Cu h),tR⟩,tR⟩) ?_)
 rintro ⟨v,en,us⟩ ⟨rfl,ho⟩
 try dsimp only at ho
 try dsimp only
 obtain ⟨va,vc,rfl,hvc⟩:=ho.shape'
 refine oj (Ak Z Z (on (qn (Af (By (i:=0) Z ho (fmK_one _) ?_)))))
 try dsimp only [List.eraseIdx]
 exact As (va,vc) Z (.tmp Z .nil) Z hvc .slnil (fun w h=>⟨(h.1.1),tR⟩) (.inl Z)
theorem private_spec (s:Dig):Ay Tryz.prog 26 [dv s] [] (fun w=>De 1 (Av .u32 B9) w∧De 3 (Av .u32 D1) w∧True) (fun _:Unit=>⟨True,iv (Fm s),[],fun _=>True⟩):=by
 refine Aj Tryz.func26 Z Z fun X w0=>(Ab (Aa (oj (Gx Z Z (fun r1=>(Al (Am 0 _ _ Z) ?_))))))
 try dsimp only [List.eraseIdx]
 exact oj (Ak Z Z (on (qn (Ab (Aa (oj (Bx Z Z Bb (fun w h=>h.1.1) Z (Ac (d:=3) (v:=dv s) Z (by exact av1 _) (oj (Ao Z Z (.cons Z (.cons Z .nil)) fb_95 (dscalar_spec s lbNode (by decide))  (fun w h=>⟨(h.2.1),(h.2.2.1),tR⟩) Z (fun _=>(Ae (fun w h=>h.2) (Ac (d:=4) (v:=iv (Fm s)) Z (by rfl) (oj (Ak Z Z (on (qn (Af (As () Z (.tmp Z .nil) Z tR .slnil (fun w h=>tR) (.inl Z))))))))))))))))))))
theorem pof_spec (i:Nat) (lb:List UInt8) (hlb:labs[i]? = some lb) (hl:lb.length≤1000) (ky:Dig):Ay Tryz.prog 98 [iv (i:Int),dv ky] [] (fun w=>De 1 (Av .u32 B9) w∧De 3 (Av .u32 D1) w∧De 0 (labs.map fun s=>.string (Iq s)) w∧True) (fun _:Unit=>⟨True,dv (Eh ky lb []),[],fun _=>True⟩):=by
 refine Aj Tryz.func98 Z Z fun X w0=>?_
 have hi3:i < 3:=(List.getElem?_eq_some_iff.1 hlb).1
 refine Ab (Aa (oj (Gx Z Z (fun r3=>(Al (Am 0 _ _ Z) ?_)))))
 try dsimp only [List.eraseIdx]
 refine oj (C7 Z Ge (fun r4=>(on (qn (Ab (A5 mo (A3 [0,1,2,3] (fun _=>false) (by kernel_rfl) Z Z (.det (dv ky) (fun Q K R m k=>(Bx Z Z Bb (fun w h=>h.1.1.1) Z (B8 (av1 _) k))) (.det _ (fun Q K R m k=>(mv Z Z k)) (.det _ (fun Q K R m k=>(iaO Z Z Z Tryz.underlying243 G4 (by omega) k)) (.det _ (fun Q K R m k=>(A4 Z Z G4 (fun w h=>De.elem (Cu h.1) (by rw [Int.toNat_natCast,List.getElem?_map,hlb]; rfl)) k)) ?_)))))))))))
 exact .nil (Ad 4 ((Ao Z Z (.cons Z (.cons Z (.cons Z .nil))) fb_83 (F5 ky lb [] none 0 hl (by simp) (by simp))  (fun w h=>⟨Be,(h.2.1),(h.2.2.1),tR⟩) Z (fun _=>(Ae (fun w h=>h.2) (Ad 5 ((Cf Z Z Bb Z .head (.head Z) Z (A6 (qn (Af (As () Z (Hk Z Bb (.head _) Z .nil) Z tR (Bl _) (fun w h=>tR) (.inl Z)))))))))))))
theorem epoch_spec (ini root:Dig):Ay Tryz.prog 28 [dv ini,dv root] [] (fun w=>De 1 (Av .u32 B9) w∧De 3 (Av .u32 D1) w∧De 0 (labs.map fun s=>.string (Iq s)) w∧True) (fun _:Unit=>⟨True,dv (epoK ini root),[],fun _=>True⟩):=by
 refine Aj Tryz.func28 Z Z fun X w0=>(Ab (Aa (oj (Gx Z Z (fun r2=>(Al (Am 0 _ _ Z) ?_))))))
 try dsimp only [List.eraseIdx]
 refine oj (Gx Z Z (fun r3=>(Al (Am 0 _ _ Z) ?_)))
 try dsimp only [List.eraseIdx]
 refine oj (C7 Z Ge (fun r4=>(on (qn (Ab (A5 mo (A3 [0,1,2] (fun _=>false) (by kernel_rfl) Z Z (.det (dv ini) (fun Q K R m k=>(Bx Z Z Bb (fun w h=>h.1.2.1.1) Z (B8 (av1 _) k))) (.det (dv root) (fun Q K R m k=>(Bx Z Z Bb (fun w h=>h.1.1.1) Z (B8 (av1 _) k))) (.det _ (fun Q K R m k=>(Ao Z Z (.cons Z (.cons Z .nil)) fb_98 (pof_spec 1 lbCommit Z (by decide) root)  (fun w h=>⟨(h.1.2.2.1),(Cu h.1),(Dw h.1),tR⟩) Z (fun _=>Ae (fun w h=>h.2) k))) (.nil (Ad 3 ((Ao Z Z (.cons Z (.cons Z (.cons Z .nil))) fb_97 (mix_spec lbEpoch (by decide) ini (Eh root lbCommit []))  (fun w h=>⟨(h.2.2.1),(Cu h),tR⟩) Z (fun _=>(Ae (fun w h=>h.2) (Ac (d:=8) (v:=dv (epoK ini root)) Z (by rfl) (Ad 4 ((Cf Z Z Bb Z .head (.head Z) Z ?_))))))))))))))))))))
 exact A6 (qn (Af (As () Z (Hk Z Bb (.head _) Z .nil) Z tR (Bl _) (fun w h=>tR) (.inl Z))))
theorem confirm_spec (a b:Dig):Ay Tryz.prog 29 [dv a,dv b] [] (fun w=>De 1 (Av .u32 B9) w∧De 3 (Av .u32 D1) w∧True) (fun _:Unit=>⟨True,dv (confK a b),[],fun _=>True⟩):=by
 refine Aj Tryz.func29 Z Z fun X w0=>(Ab (Aa (oj (Gx Z Z (fun r2=>(Al (Am 0 _ _ Z) ?_))))))
 try dsimp only [List.eraseIdx]
 refine oj (Gx Z Z (fun r3=>(Al (Am 0 _ _ Z) ?_)))
 try dsimp only [List.eraseIdx]
 refine oj (C7 Z Jb (fun r4=>(on (qn (Ab (A5 mo (A3 [0,1] (fun _=>false) (by kernel_rfl) Z Z (.det (.slice (some ⟨r2,0,none⟩) a.b.length 32) (fun Q K R m k=>(slp Z Z Tryz.underlying67 Bv Z Z (.inl Z) Z (B8 (by rw [a.h]; simp [Addr.add]) k))) (.det (.slice (some ⟨r3,0,none⟩) b.b.length 32) (fun Q K R m k=>(slp Z Z Tryz.underlying23 Bv Z Z (.inl Z) Z (B8 (by rw [b.h]; simp [Addr.add]) k))) (.nil (Ad 2 ((F7 Z Tryz.underlying244 Bt zok_53 (C3 Z Z (C3 Z Z .nil)) (by repeat (first | exact List.forall_mem_nil _ | refine List.forall_mem_cons.2 ⟨rfl,?_⟩)) Z (by decide) Z (fun r7=>?_))))))))))))))
 refine Al (Am 0 _ _ Z) ?_
 try dsimp only [List.eraseIdx]
 refine Ad 3 ?_
 have hfl:[a.b,b.b].flatten.length=64:=by simp [a.h,b.h]
 refine (call Z Z (.cons Z .nil) fb_100 (concatB_spec (some ⟨r7,0,none⟩) 2 2 [_,_] [a.b,b.b] (by omega) Z Z (by omega))  (fun w h=>⟨Ee (h.1.1) Z Z,parts2 (Gs (h.2.2.1.1)) (Gs (h.2.1.1)),tR⟩) ?_)
 rintro ⟨ac,cc⟩ hcc
 try dsimp only at hcc
 try dsimp only
 rw [show [a.b,b.b].flatten=a.b++b.b from by simp] at hfl hcc ⊢
 exact Ad 4 ((Ao Z Z (.cons Z (.cons Z .nil)) fb_99 (G0 (Iq lbConfirm) (by decide) (a.b++b.b) ac cc hcc (by omega))  (fun w h=>⟨(h.1.1),(Dw h),(Ez h),tR⟩) Z (fun _=>(Ae (fun w h=>h.2) (Ac (d:=9) (v:=dv (confK a b)) Z (by simp [confK]) (Ad 5 ((Cf Z Z Dc Z .head (.head Z) Z (A6 (qn (Af (As () Z (Hk Z Dc (.head _) Z .nil) Z tR (Bl _) (fun w h=>tR) (.inl Z)))))))))))))
def wkB (xs:List Int) (p:Nat):List UInt8:=(sbs xs).take p++List.replicate (24-p) 0
theorem Ir {xs:List Int} (h:xs.length=3) (p:Nat):(wkB xs p).length=24:=by
 unfold wkB
 have:=Jy xs
 rw [List.length_append,List.length_take,List.length_replicate]; omega
theorem wkB_all {xs:List Int} (h:xs.length=3):wkB xs 24=sbs xs:=by
 unfold wkB
 have:=Jy xs
 rw [List.take_of_length_le (by omega)]; simp
theorem sbN_at (x:Int):∀ (j q:Nat),q < j→(sbN x j)[q]? = some (UInt8.ofNat ((IntKind.wrap .u64 x).toNat / 2 ^ (56-8*q)))
 | 0,q,h=>absurd h (by omega)
 | j+1,q,h=>by
  rw [sbN]
  rcases Nat.lt_or_ge q j with h1 | h1
  ·rw [List.getElem?_append_left (by rw [Ht]; exact h1)]; exact sbN_at x j q h1
  ·have:q=j:=by omega
   subst this
   rw [List.getElem?_append_right (by rw [Ht]; exact Nat.le_refl _),Ht,Nat.sub_self]; rfl
theorem sbs_at:∀ {xs:List Int} {i q:Nat} {x:Int},xs[i]? = some x→q < 8→(sbs xs)[8*i+q]? = some (UInt8.ofNat ((IntKind.wrap .u64 x).toNat / 2 ^ (56-8*q)))
 | [],i,q,x,h,_=>by simp at h
 | y::xs,0,q,x,h,hq=>by
  simp at h; subst h
  show (sbN y 8++sbs xs)[_]? = _
  rw [Nat.mul_zero,Nat.zero_add,List.getElem?_append_left (by rw [Ht]; exact hq)]
  exact sbN_at y 8 q hq
 | y::xs,i+1,q,x,h,hq=>by
  show (sbN y 8++sbs xs)[_]? = _
  rw [List.getElem?_append_right (by rw [Ht]; omega),Ht,show 8*(i+1)+q-8=8*i+q by omega]
  exact sbs_at (by simpa using h) hq
theorem wkB_he {xs:List Int} (h3:xs.length=3) {i q:Nat} {x:Int} (hx:xs[i]? = some x) (hq:q < 8):flat [It 24 (wkB xs (8*i+q+1)) (Ir h3 _)]=(flat [It 24 (wkB xs (8*i+q)) (Ir h3 _)]).set (8*i+q) (.int .u8 ((UInt8.ofNat ((IntKind.wrap .u64 x).toNat / 2 ^ (56-8*q))).toNat:Int)):=by
 have hi:i < 3:=by have:=(List.getElem?_eq_some_iff.1 hx).1; omega
 have hl:=Jy xs
 have e:((sbs xs).take (8*i+q)).length=8*i+q:=by rw [List.length_take]; omega
 have h1:wkB xs (8*i+q+1)=(wkB xs (8*i+q)).set (8*i+q) (UInt8.ofNat ((IntKind.wrap .u64 x).toNat / 2 ^ (56-8*q))):=by
  unfold wkB
  rw [A7 (sbs_at hx hq),List.set_append_right _ _ (by omega),e,Nat.sub_self,show 24-(8*i+q)=(24-(8*i+q+1))+1 by omega,List.replicate_succ,List.set_cons_zero,List.append_assoc]
  rfl
 rw [← sby_set (Ir h3 _) (by rw [List.length_set]; exact Ir h3 _)]
 rw [Ib,Ib]
 simp only [It]
 rw [h1]
noncomputable def wkK (pub u v:Int):Dig:=E2 lbWrap (sbs [pub,u,v])
theorem ky_sl {r:Nat} {xs:List Int} {te:TypeId} {w:World} (h3:xs.length=3) (h:Bc r [It 24 (wkB xs 24) (Ir h3 _)] te w):Sl 1 (sbs xs).length (An (sbs xs)) (.slice (some ⟨r,0,none⟩) (sbs xs).length 24) w:=by
 have:=row_win (k:=0) (L:=24) (cap:=24) h (by decide) (by decide)
 rw [List.drop_zero,List.take_of_length_le (by rw [Ir h3]; exact Nat.le_refl _),wkB_all h3] at this
 rw [Jy,h3]; exact this
theorem wkey_spec (pub u e v er:Int) (f:FuncId) (hfb:Aq Tryz.prog f=true) (cs:List Value) (Ip:World→Prop) (hp:Ay Tryz.prog f ([iv e]++cs) [] Ip (fun _:Unit=>⟨True,.tuple #[iv v,iv er],[],fun _=>True⟩)):Ay Tryz.prog 105 [av [S1 (iv pub),S1 (.func (.func f) #[] cs.toArray)],iv u,iv e] [] (fun w=>Ip w∧De 1 (Av .u32 B9) w∧De 3 (Av .u32 D1) w∧True) (fun _:Unit=>⟨True,dv (wkK pub u v),[],fun _=>True⟩):=by
 refine Aj Tryz.func105 Z Z fun X w0=>(Ab (Aa (oj (C6 Z Z (fun r3=>(Al (Am 0 _ _ Z) ?_))))))
 try dsimp only [List.eraseIdx]
 refine oj (C7 Z Ge (fun r6=>(on (qn (Ab (Aa (oj (A2 (o':=1) Z Z fld_169_1 ty_76 Z (oj (A4 Z Z ty_76 (fun w h=>Bc.at1 (h.1.1) Z) (oj (mv Z Z (oj (Ao Z Z (.cons Z .nil) hfb hp  (fun w h=>(h.2.1)) Z (fun _=>(Ae (fun w h=>h.2) (oj (mv Z Z (oj (ext Z Z Z (oj (ext Z Z Z (oj (Ak Z Z (oj (Ak Z Z (on ?_)))))))))))))))))))))))))))
 refine qn (Ab (Aa (oj (C7 Z zok_248 (fun r9=>(on (qn (Ab (Ab (Aa (oj (A2 (o':=0) Z Z fld_169_0 Ai Z (oj (A4 Z Z Ai (fun w h=>Bc.at1 (h.1.1) Z) (oj (mv Z Z (oj (mv Z Z (oj (bda Z Tryz.underlying249 Ai zok_249 (C3 (v:=iv pub) Z Z (C3 (v:=iv u) Z Z (C3 (v:=iv v) Z Z .nil))) (by simp) Z Z (Ac (d:=24) (v:=.agg (Av .i64 [pub,u,v]).toArray) Z (by rfl) (oj (mv Z Z ?_)))))))))))))))))))))))
 refine on (qn (Ag (Aw (fun (sT:(Nat))=>(⟨sT≤3,[(6,Bg r6 0),(9,Bg r9 0),(24,.agg (Av .i64 [pub,u,v]).toArray),(25,iv (sT:Int))],[bx r9 [It 24 (wkB [pub,u,v] (8*sT)) (Ir (Z:[pub,u,v].length=3) _)] 248,bx r6 z_67 67],fun w=>De 1 (Av .u32 B9) w∧De 3 (Av .u32 D1) w∧True,3-sT⟩:Hd)) (0) (Nat.zero_le _) (⟨Z,Z,Z,Z,tR⟩) (.refl _) (fun w h=>⟨(h.2.2.1),(Cu h),tR⟩) ?_)))
 rintro i hi
 try dsimp only
 refine Ab (Aa (oj (Dd Z Z Z (on (qn (Ab ?_))))))
 refine A8 Z (fun ht=>?_) (fun hf=>?_)
 ·obtain ⟨x,hx⟩:∃ x,[pub,u,v][i]? = some x:=⟨_,List.getElem?_eq_getElem (by show i < 3; omega)⟩
  refine Ah (qn (Ab (Ag (Ab (Aa (oj (mv Z Z (oj (ixv1 Z Z Z Tryz.underlying249 Ai Z (by omega) (icells_get hx) (oj (Ak Z Z (oj (Ak Z Z (on (qn (Ab (Aa (oj (mv Z Z (on ?_))))))))))))))))))))
  refine qn (Ag (Aw (fun (sT:(Nat))=>(⟨sT≤8,[(6,Bg r6 0),(9,Bg r9 0),(24,.agg (Av .i64 [pub,u,v]).toArray),(10,iv (i:Int)),(11,iv x),(25,iv (i:Int)),(29,iv (sT:Int))],[bx r9 [It 24 (wkB [pub,u,v] (8*i+sT)) (Ir (Z:[pub,u,v].length=3) _)] 248,bx r6 z_67 67],fun w=>De 1 (Av .u32 B9) w∧De 3 (Av .u32 D1) w∧True,8-sT⟩:Hd)) (0) (Nat.zero_le _) (⟨Z,Z,Z,Z,Z,Z,Z,tR⟩) (.refl _) (fun w h=>⟨(h.1),(h.2.1),tR⟩) ?_))
  rintro q hq
  try dsimp only
  refine Ab (Aa (oj (Dd Z Z Z (on (qn (Ab ?_))))))
  refine A8 Z (fun ht=>?_) (fun hf=>?_)
  ·refine Ah (qn (Ab (Ag (Ab (Aa (oj (mv Z Z (oj (Ak Z Z (on (qn (Aa (oj (mv Z Z (oj (mul Z Z Z (by omega) (oj (mv Z Z (oj (add Z Z Z (by omega) (oj (mv Z Z ?_))))))))))))))))))))))
   refine oj (Ig Z Tryz.underlying3 Tryz.underlying205 Z (Ac (d:=37) (v:=nv (IntKind.wrap .u64 x).toNat) Z (by exact u64_nv x) (oj (mv Z Z (oj (mul Z Z Z (by omega) (oj (sub Z Z Z (by omega) (oj (shrN Z Z Z Z (show (56-8*(q:Int))=((56-8*q:Nat):Int) by omega) (by omega) (oj (Ig Z Tryz.underlying205 Tryz.underlying5 Z (Ac (d:=42) (v:=.int .u8 ((UInt8.ofNat ((IntKind.wrap .u64 x).toNat / 2 ^ (56-8*q))).toNat:Int)) Z (by rw [byte_of]) (oj (Gj (n':=8*i+q) Z Z Z Tryz.underlying248 Bv (by omega) (by omega) (oj (stX ([It 24 (wkB [pub,u,v] (8*i+q+1)) (Ir (Z:[pub,u,v].length=3) _)]) Z Z Bv Z .head (by rw [sby_len]; omega) (wkB_he (Z:[pub,u,v].length=3) hx (by omega)) (on (bn (qn (Aa (oj (add Z Z Z (by omega) (oj (mv Z Z ?_)))))))))))))))))))))))))
   exact on (qn (Ar (q+1) (by dsimp only; omega) (by (try dsimp only); omega) (⟨Z,Z,Z,Z,Z,Z,Z,tR⟩) (.refl _) (fun w h=>⟨(h.1),(h.2.1),tR⟩)))
  ·have h8:q=8:=by omega
   subst h8
   exact A1 (qe (qe (be (bn (qn (Aa (oj (add Z Z Z (by omega) (oj (mv Z Z (on (qn (Ar (i+1) (by dsimp only; omega) (by (try dsimp only); omega) (⟨Z,Z,Z,Z,tR⟩) (.refl _) (fun w h=>⟨(h.1),(h.2.1),tR⟩))))))))))))))
 ·have h4:i=3:=by omega
  subst h4
  refine A1 (qe (qe (be (qn (Ab (Aa (Al (Am 0 _ _ Z) ?_)))))))
  try dsimp only [List.eraseIdx]
  exact oj (slp Z Z Tryz.underlying248 Bv Z Z (.inl Z) Z (Ac (d:=46) (v:=.slice (some ⟨r9,0,none⟩) (sbs [pub,u,v]).length 24) Z (by rw [Jy]; simp [Addr.add]) (oj (Ao Z Z (.cons Z (.cons Z .nil)) fb_99 (G0 (Iq lbWrap) (by decide) (sbs [pub,u,v]) (some ⟨r9,0,none⟩) 24 (by rw [Jy]; simp) (by rw [Jy]; simp))  (fun w h=>⟨ky_sl (Z:[pub,u,v].length=3) (h.1.1),(h.2.1),(h.2.2.1),tR⟩) Z (fun _=>(Ae (fun w h=>h.2) (Ac (d:=47) (v:=dv (wkK pub u v)) Z (by rfl) (oj (Cf Z Z Bb Z .head (.head Z) Z (on (qn (Af (As () Z (Hk Z Bb (.head _) Z .nil) Z tR (Bl _) (fun w h=>tR) (.inl Z))))))))))))))
def zN:List UInt8:=List.replicate 12 0
noncomputable def wrR (seed:Dig):Int:=(scK seed lbWrap:Nat)
noncomputable def J4 (seed:Dig):Int:=Iz (wrR seed)
noncomputable def Jt (pub:Int) (seed:Dig) (head bs:List UInt8):List UInt8:=sealB (wkK pub (J4 seed) (exV pub (wrR seed))) zN head bs
theorem wrap1_spec (a r:Int) (q:Nat):Ay Tryz.prog 157 [iv a,Bg q 0] [] (fun w=>Bc q [S1 (iv r)] 3 w∧True) (fun _:Unit=>⟨True,.tuple #[iv (exV a r),iv (exE a r)],[],fun _=>True⟩):=by
 refine Aj Tryz.func157 Z Z fun X w0=>(Ab (Aa (oj (Ak Z Z (oj (Ak Z Z (on (qn (Ab (Aa (oj (mv Z Z (oj (A4 Z Z Ai (fun w h=>Bc.at1 (h.1) Z) (oj (Ao Z Z (.cons Z (.cons Z .nil)) fb_103 (exp_spec a r)  (fun w h=>tR) Z (fun _=>(Ae (fun w h=>h.2) (oj (ext Z Z Z (oj (ext Z Z Z (oj (Ak Z Z ?_))))))))))))))))))))))))
 exact oj (Ak Z Z (on (qn (Af (As () Z (.tmp Z (.tmp Z .nil)) Z tR .slnil (fun w h=>tR) (.inl Z))))))
theorem wwrap_spec (pub:Int) (hpub:el pub=true) (seed:Dig) (head:List UInt8) (ha:Option Addr) (hc:Nat) (hh:head.length≤1000000) (bs:List UInt8) (a:Addr) (ca:Nat) (h0:0 < bs.length) (hb:bs.length≤65536):Ay Tryz.prog 82 [iv pub,dv seed,.slice ha head.length hc,.slice (some a) bs.length ca] [] (fun w=>Sl 1 head.length (An head) (.slice ha head.length hc) w∧Sl 1 bs.length (An bs) (.slice (some a) bs.length ca) w∧De 1 (Av .u32 B9) w∧De 3 (Av .u32 D1) w∧De 6 (Av .u32 E7) w∧True) (fun x:(Option Addr × Nat) × A9=>⟨Own 5 1 (.slice x.1.1 (Jt pub seed head bs).length x.1.2) (Jt pub seed head bs).length (An (Jt pub seed head bs)) x.2,.tuple #[av [S1 (iv (J4 seed)),S1 (.slice x.1.1 (Jt pub seed head bs).length x.1.2)],iv 0],[x.2],fun _=>True⟩):=by
 refine Aj Tryz.func82 Z Z fun X w0=>(Ab (Aa (oj (Gx Z Z (fun r5=>(Al (Am 0 _ _ Z) ?_))))))
 try dsimp only [List.eraseIdx]
 refine oj (C7 Z zok_85 (fun r8=>(oj (Ak Z Z (on (qn (Ab (Ab (Aa (oj (mv Z Z (oj (Ao Z Z (.cons Z .nil) J2 (Dq _)  (fun w h=>tR) Z (fun _=>(Ae (fun w h=>h.2) (oj (G2 Z Z Z (on (qn (C5 Z (fun ht=>absurd ht (by simp [Ed.2 hpub])) (fun hf=>(Ah (qn ?_)))))))))))))))))))))))
 refine Ab (Aa (oj (Bx Z Z Bb (fun w h=>h.1.1) Z (Ac (d:=19) (v:=dv seed) Z (by exact av1 _) (oj (Ao Z Z (.cons Z (.cons Z .nil)) fb_95 (dscalar_spec seed lbWrap (by decide))  (fun w h=>⟨(Cu h),(Dw h),tR⟩) Z (fun _=>(Ae (fun w h=>h.2) (Ac (d:=20) (v:=iv (wrR seed)) Z (by rfl) (oj (C7 Z Gd (fun r10=>(oj (Cr Z Z Ai Z .head (.head Z) Z (on (qn (Ab (Aa (Al (Am 0 _ _ Z) ?_)))))))))))))))))))
 try dsimp only [List.eraseIdx]
 refine oj (A4 Z Z Ai (fun w h=>Bc.at1 h.1.1 Z) (oj (Ao Z Z (.cons Z .nil) fb_125 (base_spec (wrR seed))  (fun w h=>tR) Z (fun _=>(Ae (fun w h=>h.2) (oj (mv Z Z (oj (ext Z Z Z (oj (ext Z Z Z (oj (Ak Z Z (oj (Ak Z Z (on (qn (Ab (Aa (oj (mv Z Z (oj (mkF Z .nil (.cons Z .nil) (oj (bld Z lay_169 (Ch Z Z (.head Z) (Ch Z Z (.tail (.head Z)) .nil)) (oj (C7 Z zok_169 (fun r13=>?_))))))))))))))))))))))))))))
 refine oj (C0 Z Z ty_169 Z Z .head (on (qn (Ab (Aa (oj (Eb Z Z ty_169 (.head _) Z (oj (mv Z Z (oj (mv Z Z (oj (Ao Z Z (.cons Z (.cons Z (.cons Z .nil))) fb_105 (wkey_spec pub (J4 seed) pub (exV pub (wrR seed)) (exE pub (wrR seed)) 157 fb_157 [Bg r10 0] (fun w=>Bc r10 [S1 (iv (wrR seed))] 3 w∧True) (wrap1_spec pub (wrR seed) r10))  (fun w h=>⟨⟨(h.1.1),tR⟩,(Dw h),(Ez h),tR⟩) Z (fun _=>(Ae (fun w h=>h.2) (oj (bdzA Z Tryz.underlying173 Bv zok_173 (Ac (d:=34) (v:=.agg (It 12 zN Z).cs.toArray) Z (by rfl) (oj (mv Z Z (oj (mv Z Z (oj (call Z Z (.cons Z (.cons Z (.cons Z (.cons Z .nil)))) fb_158 (seal_spec (wkK pub (J4 seed) (exV pub (wrR seed))) zN Z head ha hc hh bs a ca h0 hb)  (fun w h=>⟨(h.2.2.1),(Cu h),(Dw h),(Ez h),(Ec h),tR⟩) ?_))))))))))))))))))))))))
 rintro ⟨⟨wa,wc⟩,we⟩ hwe
 try dsimp only at hwe
 try dsimp only
 refine oj (mv Z Z (oj (ext Z Z Z (oj (ext Z Z Z (oj (Ak Z Z (oj (Ak Z Z (on (qn (Ab (Ab (Aa (oj (mv Z Z (oj (G2 Z Z Z (on (qn (C5 Z (fun ht=>absurd ht (by simp)) (fun hf=>(Ah ?_)))))))))))))))))))))))
 exact qn (Ab (Aa (oj (mv Z Z (oj (mv Z Z (oj (bld Z lay_85 (Ch Z Z (.head Z) (Ch Z Z (.tail (.head Z)) .nil)) (oj (C0 Z Z Ct Z Z (.tail (.tail .head)) (oj (Ak Z Z (on (qn (Af (As ((wa,wc),we) Z (.cellW Z Ct (.tail _ (.tail _ (.head _))) Z (.tmp Z .nil)) Z hwe (.cons_cons _ (Bl _)) (fun w h=>tR) (.inl Z)))))))))))))))))
noncomputable def If (c:Cm) (tag:List UInt8) (ls:List Int):Dig:=E2 tag (enc (.list ((Cb c).take 4++ls.map .int)))
theorem PartsV.none (w:World):PartsV [] [] w:=⟨rfl,fun i v rs hv _=>by simp at hv⟩
theorem PartsV.cons {w:World} {v:Value} {b:List RV} {m:Nat} {vs:List Value} {bs:List (List RV)} (hm:b.length=m) (h:Sl 4 m (b.flatMap RV.cells) v w) (k:PartsV bs vs w):PartsV (b::bs) (v::vs) w:=by
 subst hm
 refine ⟨by rw [List.length_cons,List.length_cons,k.1],fun i u cs hv hb=>?_⟩
 match i with
 | 0=>simp at hv hb; subst hv hb; exact h
 | i+1=>exact k.2 i u cs (by simpa using hv) (by simpa using hb)
theorem ints_sok (xs:List Int) (w:World):Bo (xs.map D6) w:=Bo.of fun v hv=>by
 obtain ⟨n,_,rfl⟩:=List.mem_map.1 hv; exact trivial
theorem hd_vals {c:Cm} {rv:List RV} {ls:List Int} (h:vals rv=Cb c):vals [rv.take 4,ls.map D6].flatten=(Cb c).take 4++ls.map .int:=by
 have:[rv.take 4,ls.map D6].flatten=rv.take 4++ls.map D6:=by simp
 rw [this,Cz,List.map_append,← Cz,← Cz,F9,h,vals_int]
theorem okL_app {a b:List Val} (ha:okL a) (hb:okL b):okL (a++b):=okL_of fun v hv=>by
 rcases List.mem_append.1 hv with hv | hv
 ·exact okL_mem ha v hv
 ·exact okL_mem hb v hv
theorem okL_ints {ls:List Int} (h:∀ n∈ls,i64 n):okL (ls.map Val.int):=okL_of fun v hv=>by
 obtain ⟨n,hn,rfl⟩:=List.mem_map.1 hv
 simp only [Val.ok]; exact h n hn
theorem depL_app (a b:List Val):Gc (a++b)=max (Gc a) (Gc b):=by
 induction a with
 | nil=>simp [Gc]
 | cons v a ih=>simp only [List.cons_append,Gc,ih]; omega
theorem hd_dep (c:Cm) (ls:List Int):Gc ((Cb c).take 4++ls.map .int)≤15:=by
 rw [depL_app]
 have h1:=depL_take (Cb c) 4
 have h2:=I7 c
 have h3:=dep_ints ls
 omega
theorem hd_len {c:Cm} {ls:List Int} (hok:okL ((Cb c).take 4)) (hl:ls.length≤1000) (hi:∀ n∈ls,i64 n):(enc (.list ((Cb c).take 4++ls.map .int))).length≤100000000000:=by
 have h1:=enc_size (.list ((Cb c).take 4++ls.map .int)) (by
  simp only [Val.ok]
  exact ⟨by rw [List.length_append,List.length_take,List.length_map]; omega,okL_app hok (okL_ints hi)⟩)
 have h2:=Jc (f:=Val.int) (k:=11) (xs:=ls) fun x _=>by simp [vsz]
 have h3:∀ a b:List Val,Ih (a++b)=Ih a+Ih b:=by
  intro a b
  induction a with
  | nil=>simp [Ih]
  | cons v a ih=>simp only [List.cons_append,Ih,ih]; omega
 have h4:Ih ((Cb c).take 4)=76:=by
  show Ih [.int c.folder,.int c.epoch,.text c.parent.b,.int c.author]=76
  simp only [Ih,vsz,c.parent.h]
 simp only [vsz,h3,h4] at h1
 omega
theorem chead_spec (c:Cm) (hb:CmB c) (hok:okL ((Cb c).take 4)) (tag:List UInt8) (ht:tag.length≤1000) (ls:List Int) (la:Option Addr) (lc:Nat) (hl:ls.length≤1000) (hi:∀ n∈ls,i64 n):Ay Tryz.prog 84 [av c.segs,.string (Iq tag),.slice la ls.length lc] [] (fun w=>CF1 c w∧CF2 c w∧CF3 c w∧CF4 c w∧CF5 c w∧CF6 c w∧Sl 1 ls.length (ls.flatMap (fun x=>[iv x])) (.slice la ls.length lc) w∧De 1 (Av .u32 B9) w∧De 3 (Av .u32 D1) w∧True) (fun r:Nat=>⟨True,.slice (some ⟨r,0,none⟩) (If c tag ls).b.length 32,[bx r [sd (If c tag ls)] 23],fun _=>True⟩):=by
 refine Aj Tryz.func84 Z Z fun X w0=>(Ab (Aa (oj (C6 Z Z (fun r3=>(Al (Am 0 _ _ Z) ?_))))))
 try dsimp only [List.eraseIdx]
 refine oj (Ak Z Z (on (qn (Ab (A5 mo (dj_free [0,1,4,2,3,5,6,7,8] (fun j=>Nat.beq j 2 || Nat.beq j 5 || Nat.beq j 6 || Nat.beq j 7) 9 (fun r=>bx r z_23 23) (by kernel_rfl) Z Z (fun L J Q K R k=>C7 Z Jb (fun r=>Fp (Ae (fun w h=>⟨⟨tR,h.1⟩,h.2⟩) (k r tR)))) (.det _ (fun Q K R m k=>(mv Z Z k)) (.det _ (fun Q K R m k=>(Bx Z Z Bk (fun w h=>h.1.1.1) Z k)) (.det _ (fun Q K R m k=>(mv Z Z k)) (.gh _ _ _ _ Z (fun Q K R m k=>call Z Z (.cons Z .nil) fb_65 (Gr c hb)  (fun w h=>⟨(h.1.2.1),(h.1.2.2.1),(Cu h.1),(Dw h.1),(Ez h.1),(Ec h.1),tR⟩) (fun x hx=>Ae (fun w h=>⟨⟨h.1,h.2.1⟩,h.2.2⟩) (k x hx))) (fun _=>by exact ⟨[],by simp⟩) ?_))))))))))
 rintro ⟨rv,av4,cv4⟩ ⟨h1,h2,h3⟩
 try dsimp only at h1 h2 h3
 try dsimp only [List.nil_append,List.cons_append]
 refine .det (.slice (if cv4-0=0 then av4 else av4.map (·.add (0*4))) (4-0) (cv4-0)) (fun Q K R m k=>(slc (h:=4) Z Z Tryz.underlying59 Bi Z ⟨_,Z,by (try dsimp only at h3); omega⟩ (.inl Z) Z (B8 (Z) k))) (.gh _ _ _ _ Z (fun Q K R m k=>call Z Z (.cons Z .nil) fb_141 (numbers_spec la ls.length lc ls Z (by omega))  (fun w h=>⟨(Gg h.1),tR⟩) (fun x hx=>Ae (fun w h=>⟨⟨h.1,h.2.1⟩,h.2.2⟩) (k x hx))) (fun _=>by exact ⟨[],by simp⟩) ?_)
 rintro ⟨na,nc⟩ hnc
 try dsimp only at hnc
 try dsimp only [List.nil_append,List.cons_append]
 refine .gh (γ:=Nat) (fun _=>True) _ _ _ Z (fun Q K R m k=>(F7 Z Tryz.underlying287 B3 zok_59 (C3 Z Z (C3 Z Z .nil)) (by repeat (first | exact List.forall_mem_nil _ | refine List.forall_mem_cons.2 ⟨rfl,?_⟩)) Z (by decide) Z (fun r14=>Al (.refl _) (Ae (fun w h=>⟨⟨h.1,h.2.1⟩,h.2.2⟩) (k r14 tR))))) (fun _=>by exact ⟨[],by simp⟩) ?_
 rintro r14 _
 try dsimp only [List.nil_append,List.cons_append]
 refine .gh _ _ _ _ Z (fun Q K R m k=>call Z Z (.cons Z .nil) fb_162 (concatV_spec (some ⟨r14,0,none⟩) 2 2 [_,_] [rv.take 4,ls.map D6] (by omega) Z Z (by simp [h2]; omega))  (fun w h=>⟨Ee (h.1.1.1) Z Z,.cons (by rw [List.length_take]; omega) (sl_take (h.1.2.2.1.1) (fun _=>Z) (by decide) (by (try dsimp only at h3); omega)) (.cons (by rw [List.length_map]) (h.1.2.1.1) (.none w)),tR⟩) (fun x hx=>Ae (fun w h=>⟨⟨h.1,h.2.1⟩,h.2.2⟩) (k x hx))) (fun _=>by exact ⟨[],by simp⟩) ?_
 rintro ⟨ac,cc⟩ hcc
 try dsimp only at hcc
 try dsimp only [List.nil_append,List.cons_append]
 refine .det _ (fun Q K R m k=>(Ao Z Z (.cons Z (.cons Z .nil)) fb_80 (chash_spec (Iq tag) (by simpa using by omega) [rv.take 4,ls.map D6].flatten ac _ cc Z (by simp [h2]; omega) (by rw [hd_vals h1]; exact okL_app hok (okL_ints hi)) (by rw [hd_vals h1]; exact hd_dep c ls) (by rw [hd_vals h1]; exact hd_len hok hl hi))  (fun w h=>⟨(h.1.1.1),(by simpa using Bo.app (Bo.of (fun v hv=>Bo.mem ((Cu h.1).2.1) v (List.mem_of_mem_take hv))) (ints_sok ls w)),(Ev h.1),(Jr h.1),tR⟩) Z (fun _=>Ae (fun w h=>h.2) k))) (.nil ?_)
 intro r7
 try dsimp only [List.nil_append,List.cons_append]
 refine Ad 10 ((Cf Z Z Dc Z .head (.head Z) Z (A6 (qn (Ab (Aa ?_))))))
 have hhd:E2 (Iq tag).data.toList (enc (.list (vals [rv.take 4,ls.map D6].flatten)))=If c tag ls:=by rw [hd_vals h1]; simp [If]
 rw [hhd]
 exact oj (slp Z Z Tryz.underlying23 Bv Z Z (.inl Z) Z (Ac (d:=17) (v:=.slice (some ⟨r7,0,none⟩) (If c tag ls).b.length 32) Z (by rw [(If c tag ls).h]; simp [Addr.add]) (oj (Ak Z Z (on (qn (Af (As r7 Z (.tmp Z .nil) Z tR (.refl _) (fun w h=>tR) (.inl Z)))))))))
end Go.Chx
namespace Go.Chx
open Go
theorem pow_one_mod {a P Q:Nat} (hP:1 < P) (h:a ^ Q % P=1) (k:Nat):(a ^ Q) ^ k % P=1:=by
 rw [Nat.pow_mod,h,Nat.one_pow,Nat.mod_eq_of_lt hP]
theorem pow_red {a P Q:Nat} (hP:1 < P) (h:a ^ Q % P=1) (n:Nat):a ^ (n % Q) % P=a ^ n % P:=by
 have e:a ^ n=(a ^ Q) ^ (n / Q)*a ^ (n % Q):=by
  rw [← Nat.pow_mul,← Nat.pow_add,Nat.div_add_mod]
 rw [e,Nat.mul_mod,pow_one_mod hP h,Nat.one_mul,Nat.mod_mod]
theorem pow_el {a P Q:Nat} (hP:1 < P) (hQ:0 < Q) (h:a ^ Q % P=1) (k:Nat):1≤a ^ k % P∧a ^ k % P < P∧(a ^ k % P) ^ Q % P=1:=by
 have h1:(a ^ k % P) ^ Q % P=1:=by
  rw [← Nat.pow_mod,← Nat.pow_mul,Nat.mul_comm,Nat.pow_mul]; exact pow_one_mod hP h k
 refine ⟨?_,Nat.mod_lt _ (by omega),h1⟩
 rcases Nat.eq_zero_or_pos (a ^ k % P) with h0 | h0
 ·rw [h0,Nat.zero_pow hQ,Nat.zero_mod] at h1; cases h1
 ·exact h0
theorem sch_law {g P Q k h x:Nat} (hP:1 < P) (hg:g ^ Q % P=1):g ^ ((k+h*x % Q) % Q) % P=(g ^ k % P)*((g ^ x % P) ^ h % P) % P:=by
 rw [pow_red hP hg,Nat.pow_add,Nat.mul_mod,pow_red hP hg]
 congr 2
 rw [← Nat.pow_mod,← Nat.pow_mul,Nat.mul_comm]
theorem pw_all {a Q:Nat} (hQ:0 < Q) (h:pw a Q=1) (k:Nat):1≤pw a k∧pw a k < 4611686018427377339∧pw (pw a k) Q=1:=pow_el (by decide) hQ h k
theorem pw_sch {Q k h x:Nat} (hg:pw 4 Q=1):pw 4 ((k+h*x % Q) % Q)=pw 4 k*pw (pw 4 x) h % 4611686018427377339:=sch_law (by decide) hg
theorem el_pw (k:Nat):el ((pw 4 k:Nat):Int)=true:=by
 obtain ⟨h1,h2,h3⟩:=pw_all (by omega) pw_G k
 exact Gh.2 ⟨by omega,by omega,by rw [Int.toNat_natCast]; exact h3⟩
theorem el_exp {a:Int} (h:el a=true) (k:Nat):el ((pw a.toNat k:Nat):Int)=true:=by
 obtain ⟨_,_,h3⟩:=Gh.1 h
 obtain ⟨h1,h2,h3⟩:=pw_all (by omega) h3 k
 exact Gh.2 ⟨by omega,by omega,by rw [Int.toNat_natCast]; exact h3⟩
theorem Jg {x:Int}:Fb x = !inQ x:=by
 unfold Fb inQ
 by_cases h:0≤x
 ·by_cases h2:x < 2305843009213688669
  ·simp [h,h2]
  ·simp [h,h2]; omega
 ·have h2:x < 0:=by omega
  simp [h,h2]
theorem baV_el {x:Int} (h:inQ x=true):el (Iz x)=true:=by
 unfold Iz; rw [if_pos h]; exact el_pw _
theorem inQ_kv {x:Int} (h:kv x=true):inQ x=true:=by
 have:=kv_iff.1 h
 exact inQ_iff.2 ⟨by omega,by omega⟩
theorem Hx {n:Nat} (h:n < 2305843009213688669):inQ (n:Int)=true:=inQ_iff.2 ⟨by omega,by omega⟩
theorem sgM_eq {x:Int} {msg:List UInt8} (h:kv x=true):∃ k hh:Nat,k < 2305843009213688669∧hh < 2305843009213688669∧sgK x msg=(k:Int)∧sgH x msg=(hh:Int)∧sgM x msg=((hh*x.toNat % 2305843009213688669:Nat):Int)∧sgZ x msg=(((k+hh*x.toNat % 2305843009213688669) % 2305843009213688669:Nat):Int):=by
 have h1:=scal_lt tagNonce (sbs [x]++msg)
 have h2:=scal_lt Jv (sbs [sgR x msg,Iz x]++msg)
 have h3:sgM x msg=((scal Jv (sbs [sgR x msg,Iz x]++msg)*x.toNat % 2305843009213688669:Nat):Int):=by
  unfold sgM sgH fmul
  rw [Jg,Jg,inQ_kv h,Hx h2.2]
  rw [if_neg (by decide),Int.toNat_natCast]
 refine ⟨_,_,h1.2,h2.2,Z,Z,h3,?_⟩
 unfold sgZ
 rw [h3]
 unfold sgK fadd
 have h4:scal Jv (sbs [sgR x msg,Iz x]++msg)*x.toNat % 2305843009213688669 < 2305843009213688669:=Nat.mod_lt _ (by omega)
 rw [Jg,Jg,Hx h1.2,Hx h4,if_neg (by decide)]
 omega
theorem sign_ok {x:Int} (msg:List UInt8) (h:kv x=true):signE x msg=0:=by
 obtain ⟨k,hh,h1,h2,h3,h4,h5,h6⟩:=sgM_eq (msg:=msg) h
 have h7:hh*x.toNat % 2305843009213688669 < 2305843009213688669:=Nat.mod_lt _ (by omega)
 unfold signE f2E
 rw [if_pos h,h3,h5,Jg,Jg,Hx h1,Hx h7,if_neg (by decide)]
theorem sign_ver {x:Int} (msg:List UInt8) (h:kv x=true):verB (Iz x) msg (signR x msg) (signS x msg)=true:=by
 obtain ⟨k,hh,h1,h2,h3,h4,h5,h6⟩:=sgM_eq (msg:=msg) h
 have h8:(k+hh*x.toNat % 2305843009213688669) % 2305843009213688669 < 2305843009213688669:=Nat.mod_lt _ (by omega)
 have hR:sgR x msg=((pw 4 k:Nat):Int):=by unfold sgR Iz; rw [h3,if_pos (Hx h1),Int.toNat_natCast]
 have hp:Iz x=((pw 4 x.toNat:Nat):Int):=by unfold Iz; rw [if_pos (inQ_kv h)]
 have hH:((scal Jv (sbs [sgR x msg,Iz x]++msg):Nat):Int)=(hh:Int):=h4
 unfold verB signR signS
 rw [if_pos h,if_pos h,hH,h6,Jg,Hx h8,baV_el (inQ_kv h)]
 rw [hR,hp,el_pw]
 have hex:exV ((pw 4 x.toNat:Nat):Int) (hh:Int)=((pw (pw 4 x.toNat) hh:Nat):Int):=by
  unfold exV; rw [if_pos ⟨el_pw _,Hx h2⟩,Int.toNat_natCast,Int.toNat_natCast]
 have hee:el ((pw (pw 4 x.toNat) hh:Nat):Int)=true:=by
  have:=el_exp (el_pw x.toNat) hh
  rw [Int.toNat_natCast] at this; exact this
 have hgm:gmV ((pw 4 k:Nat):Int) ((pw (pw 4 x.toNat) hh:Nat):Int)=((pw 4 k*pw (pw 4 x.toNat) hh % 4611686018427377339:Nat):Int):=by
  unfold gmV; rw [if_pos ⟨el_pw _,hee⟩,Int.toNat_natCast,Int.toNat_natCast]
 rw [hex,hgm]
 have hb:Iz (((k+hh*x.toNat % 2305843009213688669) % 2305843009213688669:Nat):Int)=((pw 4 ((k+hh*x.toNat % 2305843009213688669) % 2305843009213688669):Nat):Int):=by
  unfold Iz; rw [if_pos (Hx h8),Int.toNat_natCast]
 rw [hb]
 rw [pw_sch pw_G]
 simp
end Go.Chx
