/- Part of the proof that the law CommitsMembers holds. -/
import Derived.Test.YtegbaopejhpnkaaGreatDoorAa
import Derived.Test.YtegbaopejhpnkaaGreatDoorAh
import Derived.Test.YtegbaopejhpnkaaGreatDoorAi
import Derived.Test.YtegbaopejhpnkaaGreatDoorAj
namespace Go.Chx
open Go Go.Proofs
set_option maxHeartbeats 1000000
set_option maxRecDepth 4000
def restN (m:Nat) (bs:List UInt8):Nat:=bs.foldl (fun n b=>(n*256+b.toNat) % m) 0
theorem restN_snoc (m:Nat) (bs:List UInt8) (c:UInt8):restN m (bs++[c])=(restN m bs*256+c.toNat) % m:=by unfold restN; rw [List.foldl_append]; rfl
theorem restN_lt {m:Nat} (hm:0 < m) (bs:List UInt8):restN m bs < m:=by
 rcases List.eq_nil_or_concat bs with rfl | ⟨l,c,rfl⟩
 ·exact hm
 ·rw [List.concat_eq_append,restN_snoc]; exact Nat.mod_lt _ hm
theorem or_byte (n b:Nat) (hb:b < 256):n*2 ^ 8 % 18446744073709551616 ||| b=n % 72057594037927936*256+b:=by
 rw [show n*2 ^ 8 % 18446744073709551616=n % 72057594037927936*2 ^ 8 from by omega,or_split _ _ _ (by omega)]
noncomputable def scal (tag bs:List UInt8):Nat:=1+restN 2305843009213688668 (E2 tag bs).b
theorem scal_lt (tag bs:List UInt8):1≤scal tag bs∧scal tag bs < 2305843009213688669:=by
 have:=restN_lt (m:=2305843009213688668) (by omega) (E2 tag bs).b
 unfold scal; omega
theorem rest1_spec (b:UInt8) (r r3 n m:Nat) (hm:256≤m) (hm2:m < 18446744073709551616) (hn:n < m) (n':Nat) (hn':n'=(n*256+b.toNat) % m):Ay Tryz.prog 257 [.int .u8 (b.toNat:Int),Bg r 0,Bg r3 0] [bx r [S1 (nv n)] 205] (fun w=>Bc r3 [S1 (nv m)] 205 w∧True) (fun _:Unit=>⟨True,.tuple #[],[bx r [S1 (nv n')] 205],fun _=>True⟩):=by
 refine Aj Tryz.func257 Z Z fun X w0=>?_
 subst hn'
 refine Aa (oj (Bh Z Z Fw (.head _) (Z) (oj (shrN (b:=56) Z Z Z Z Z (by omega) (oj (Bh Z Z Fw (.head _) (Z) (oj (shlN (b:=8) Z Z Z Z Z (by omega) (oj (mv Z Z ?_))))))))))
 have hbt:=b.toNat_lt
 exact oj (Ig Z Tryz.underlying5 Tryz.underlying205 Z (Ac (d:=10) (v:=nv b.toNat) Z (by rw [C4 (by omega)]) (oj (orN Z Z Z Z Z (by omega) (Ac (d:=11) (v:=nv (n % 72057594037927936*256+b.toNat)) Z (by rw [or_byte _ _ (by omega)]) (oj (A4 Z Z Fw (fun w h=>Bc.at1 (h.1) Z) (oj (Ao Z Z (.cons Z (.cons Z (.cons Z .nil))) fb_245 (div64_spec (n / 2 ^ 56) (n % 72057594037927936*256+b.toNat) m hm2 (by omega) (by omega))  (fun w h=>tR) Z (fun _=>(Ae (fun w h=>h.2) (oj (mv Z Z (oj (ext Z Z Z (oj (ext Z Z Z (Ac (d:=15) (v:=nv ((n*256+b.toNat) % m)) Z (by show nv (_ % m)=nv (_ % m); rw [show n / 2 ^ 56*18446744073709551616+(n % 72057594037927936*256+b.toNat)=n*256+b.toNat from by omega]) (oj (Cr Z Z Fw Z .head (.head Z) Z (on (As () Z .nil Z tR (.refl _) (fun w h=>tR) (.inr Z)))))))))))))))))))))))
theorem rest_spec (d:Dig) (m:Nat) (hm:256≤m) (hm2:m < 18446744073709551616):Ay Tryz.prog 221 [dv d,nv m] [] (fun _=>True) (fun _:Unit=>⟨True,nv (restN m d.b),[],fun _=>True⟩):=by
 refine Aj Tryz.func221 Z Z fun X w0=>(Ab (Aa (oj (Gx Z Z (fun r2=>(oj (box1 Z Z Z (fun r3=>(oj (C7 Z zok_205 (fun r4=>(on (qn (Ab (Aa (oj (mkF Z .nil (.cons Z (.cons Z .nil)) (oj (Ak Z Z (on (qn (Ab (Ab ?_)))))))))))))))))))))))
 refine Aa (oj (Js Z Z Dc (.tail _ (.tail _ (.head _))) Z Z (oj (mv Z Z (on (qn (Ag (Al (Am 1 _ _ Z) ?_))))))))
 try dsimp only [List.eraseIdx]
 refine Aw (fun (sT:(Nat))=>(⟨sT≤32,[(4,Bg r4 0),(5,.func (.func 257) #[] #[Bg r4 0,Bg r3 0]),(9,dv d),(10,.int .i64 (sT:Int))],[bx r4 [S1 (nv (restN m (d.b.take sT)))] 205],fun w=>Bc r3 [S1 (nv m)] 205 w∧True,32-sT⟩:Hd)) (0) (by dsimp only; omega) (⟨Z,Z,Z,Z,tR⟩) (.cons_cons _ (Bl _)) (fun w h=>⟨(h.1.1),tR⟩) ?_
 rintro i hi
 try dsimp only
 refine Ab (Aa (oj (Dd Z Z Z (on (qn (Ab ?_))))))
 refine A8 Z (fun ht=>?_) (fun hf=>?_)
 ·obtain ⟨c,hc⟩:∃ c,d.b[i]? = some c:=⟨_,List.getElem?_eq_getElem (by rw [d.h]; omega)⟩
  have hsn:=restN_snoc m (d.b.take i) c
  rw [← A7 hc] at hsn
  refine Ah (qn (Ab (Ag (Ab (Aa (oj (ixv1 Z Z Z Tryz.underlying23 Bv Z (by omega) (F6 hc) (oj (Ak Z Z (on (qn (Aa (oj (mv Z Z (oj (mv Z Z (oj (Ce Z Z (.cons Z .nil) fb_257 (rest1_spec c r4 r3 (restN m (d.b.take i)) m hm hm2 (restN_lt (by omega) _) _ hsn) (fun _=>.head) (fun _=>Z) (fun w h=>⟨(h.1),tR⟩) ?_))))))))))))))))))
  rintro _ _
  try dsimp only
  exact on (bn (qn (Aa (oj (add Z Z Z (by omega) (oj (mv Z Z (on (qn (Ar (i+1) (by dsimp only; omega) (by dsimp only; omega) (⟨Z,Z,Z,Z,tR⟩) (.refl _) (fun w h=>⟨(h.2.1),tR⟩)))))))))))
 ·have h4:i=32:=by omega
  subst h4
  exact A1 (qe (qe (be (qn (Ab (Aa (oj (Bh Z Z Fw (.head _) (Z) (oj (Cr Z Z Fw Z .head (.head Z) Z (on (qn (Af (As () Z (.cell1 Z Fw (.head _) Z .nil) (by show nv _=nv _; rw [List.take_of_length_le (by rw [d.h]; omega)]) tR (Bl _) (fun w h=>tR) (.inl Z)))))))))))))))
theorem scalar_spec (tag:ByteArray) (ht:tag.data.toList.length≤1000000) (bs:List UInt8) (a:Option Addr) (cap:Nat) (hcap:bs.length≤cap) (hn:bs.length≤140737488000000):Ay Tryz.prog 171 [.string tag,.slice a bs.length cap] [] (fun w=>Sl 1 bs.length (An bs) (.slice a bs.length cap) w∧De 1 (Av .u32 B9) w∧De 3 (Av .u32 D1) w∧True) (fun _:Unit=>⟨True,iv (scal tag.data.toList bs:Nat),[],fun _=>True⟩):=by
 refine Aj Tryz.func171 Z Z fun X w0=>(Ab (Aa (oj (Ak Z Z (on (qn (Ab (Aa (oj (mv Z Z (oj (mv Z Z (oj (Ao Z Z (.cons Z (.cons Z .nil)) fb_99 (G0 tag ht bs a cap hcap hn)  (fun w h=>⟨(h.1),(h.2.1),(h.2.2.1),tR⟩) Z (fun _=>(Ae (fun w h=>h.2) (oj (Ao Z Z (.cons Z (.cons Z .nil)) fb_221 (rest_spec (E2 tag.data.toList bs) 2305843009213688668 (by omega) (by omega))  (fun w h=>tR) Z (fun _=>(Ae (fun w h=>h.2) ?_))))))))))))))))))))
 have hrl:=restN_lt (m:=2305843009213688668) (by omega) (E2 tag.data.toList bs).b
 exact oj (Ig Z Tryz.underlying205 Tryz.underlying3 Z (Ac (d:=9) (v:=iv (restN 2305843009213688668 (E2 tag.data.toList bs).b:Nat)) Z (by rw [Dr (by omega)]) (oj (add Z Z Z (by omega) (Ac (d:=10) (v:=iv (scal tag.data.toList bs:Nat)) Z (by unfold scal; first | rfl | (congr 1; omega)) (oj (Ak Z Z (on (qn (Af (As () Z (.tmp Z .nil) Z tR .slnil (fun w h=>tR) (.inl Z))))))))))))
def Im {α:Type} (g:FuncId) (fs cs:List Value) (enc:α→List Value) (q:α→Bool) (I:World→Prop) (x:α):Prop :=
 Ay Tryz.prog g (fs++enc x++cs) [] I (fun _:Unit=>⟨True,.bool (q x),[],fun _=>True⟩)
def Dp {α:Type} (q:α→Bool) (xs:List α):Int:=match xs.findIdx? q with | some i=>i | none=>-1
theorem Hy {α:Type} {q:α→Bool} {xs:List α} (h:xs.any q=false):Dp q xs = -1:=by
 have:xs.findIdx? q=none:=by
  rw [List.findIdx?_eq_none_iff]
  intro x hx
  cases e:q x with
  | false=>rfl
  | true=>rw [List.any_eq_true.2 ⟨x,hx,e⟩] at h; cases h
 rw [Dp,this]
theorem J9 {α:Type} {q:α→Bool} {xs:List α} {i:Nat} {x:α} (h:(xs.take i).any q=false) (hx:xs[i]? = some x) (hq:q x=true):Dp q xs=i:=by
 have:xs.findIdx? q=some i:=by
  rw [List.findIdx?_eq_some_iff_getElem]
  obtain ⟨hi,e⟩:=List.getElem?_eq_some_iff.1 hx
  refine ⟨hi,by rw [e]; exact hq,fun j hj=>?_⟩
  intro hc
  rw [List.any_eq_true.2 ⟨xs[j],List.mem_take_iff_getElem.2 ⟨j,by omega,rfl⟩,hc⟩] at h
  cases h
 rw [Dp,this]
theorem Ix {α:Type} (q:α→Bool) (xs:List α):decide (Dp q xs≥0)=xs.any q:=by
 cases h:xs.any q with
 | false=>rw [Hy h]; rfl
 | true =>
  unfold Dp
  cases e:xs.findIdx? q with
  | some i=>simp
  | none =>
   rw [List.findIdx?_eq_none_iff] at e
   obtain ⟨x,hx,hq⟩:=List.any_eq_true.1 h
   rw [e x hx] at hq; cases hq
theorem any_snoc {α:Type} {q:α→Bool} {xs:List α} {i:Nat} {x:α} (h:(xs.take i).any q=false) (hx:xs[i]? = some x) (hq:q x=false):(xs.take (i+1)).any q=false:=by
 rw [A7 hx,List.any_append,h]; simp [hq]
theorem Dh {α:Type} {f:α→Value} {xs:List α} {i:Nat} {x:α} (h:xs[i]? = some x):(xs.flatMap fun x=>[f x])[i]? = some (f x):=by
 have:∀ ys:List α,(ys.flatMap fun x=>[f x])=ys.map f:=fun ys=>by
  induction ys with
  | nil=>rfl
  | cons y ys ih=>simp only [List.flatMap_cons,ih,List.map_cons,List.cons_append,List.nil_append]
 rw [this,List.getElem?_map,h]; rfl
theorem indexf_int (I0:World→Prop) (a:Option Addr) (n cap:Nat) (xs:List Int) (hn:xs.length=n) (hn2:n < 9223372036854775807) (g:FuncId) (fs cs:List Value) (q:Int→Bool) (hg:Aq Tryz.prog g=true) (hq:∀ x∈xs,Im g fs cs (fun x=>[iv x]) q I0 x):Ay Tryz.prog 193 [.slice a n cap,.func (.func g) fs.toArray cs.toArray] [] (fun w=>Sl 1 n (xs.flatMap (fun x=>[iv x])) (.slice a n cap) w∧I0 w∧True) (fun _:Unit=>⟨True,iv (Dp q xs),[],fun _=>True⟩):=by
 refine Aj Tryz.func193 Z Z fun X w0=>(Ab (Aa (oj (Ak Z Z (on (qn (Ab (Ab (Aa (oj (mv Z Z (oj (Bn Z Z Tryz.underlying31 Z (oj (mv Z Z (on (qn (Ag (Aw (fun (sT:(Nat))=>(⟨sT≤n∧(xs.take sT).any q=false,[(0,.slice a n cap),(1,.func (.func g) fs.toArray cs.toArray),(4,iv 0),(7,iv n),(8,iv (sT:Int))],[],fun w=>Sl 1 n (xs.flatMap (fun x=>[iv x])) (.slice a n cap) w∧I0 w∧True,n-sT⟩:Hd)) (0) (⟨Nat.zero_le _,by simp⟩) (⟨Z,Z,Z,Z,Z,tR⟩) .slnil (fun w h=>⟨(h.1),(h.2.1),tR⟩) ?_)))))))))))))))))))
 rintro i ⟨hi,ha⟩
 try dsimp only
 refine Ab (Aa (oj (Dd Z Z Z (on (qn (Ab ?_))))))
 refine A8 Z (fun ht=>?_) (fun hf=>?_)
 ·obtain ⟨x,hx⟩:∃ x,xs[i]? = some x:=⟨_,List.getElem?_eq_getElem (by omega)⟩
  refine Ah (qn (Ab (Ag (Ab (Aa (oj (mv Z Z (oj (Ak Z Z (on (qn (Ab (Aa (oj (mv Z Z (oj (mv Z Z (oj (mv Z Z (oj (Fc Z Z Z Tryz.underlying31 Ai (by omega) (fun w h=>Sl.some (h.1) (by omega)) ?_)))))))))))))))))))))
  refine oj (A4 Z Z Ai (fun w h=>Sl.elem1 (h.1) (Dh hx)) (oj (Ao Z Z (.cons Z .nil) hg (hq x (List.mem_of_getElem? hx))  (fun w h=>(h.2.1)) Z (fun _=>(Ae (fun w h=>h.2) (on (qn ?_)))))))
  refine Ap Z (fun ht=>?_) (fun hf=>?_)
  ·exact Ab (Aa (oj (mv Z Z (oj (Ak Z Z (on (qn (Af (br (qr (qr (br (qr (Ac (d:=4) (v:=iv (Dp q xs)) Z (by rw [J9 ha hx ht]) (As () Z (.tmp Z .nil) Z tR .slnil (fun w h=>tR) (.inl Z))))))))))))))))
  ·exact Ah (bn (qn (Aa (oj (add Z Z Z (by omega) (oj (mv Z Z (on (qn (Ar (i+1) (by dsimp only; omega) (⟨by (try dsimp only); omega,any_snoc ha hx hf⟩) (⟨Z,Z,Z,Z,Z,tR⟩) .slnil (fun w h=>⟨(h.1),(h.2.1),tR⟩)))))))))))
 ·refine A1 (qe (qe (be (qn (Ab (Aa (oj (Ak Z Z (on (qn (Af ?_)))))))))))
  have h4:i=n:=by omega
  exact Ac (d:=4) (v:=iv (Dp q xs)) Z (by rw [Hy (by rw [← ha,List.take_of_length_le (by omega)])]) (As () Z (.tmp Z .nil) Z tR .slnil (fun w h=>tR) (.inl Z))
theorem containsf_int (I0:World→Prop) (a:Option Addr) (n cap:Nat) (xs:List Int) (hn:xs.length=n) (hn2:n < 9223372036854775807) (g:FuncId) (fs cs:List Value) (q:Int→Bool) (hg:Aq Tryz.prog g=true) (hq:∀ x∈xs,Im g fs cs (fun x=>[iv x]) q I0 x):Ay Tryz.prog 130 [.slice a n cap,.func (.func g) fs.toArray cs.toArray] [] (fun w=>Sl 1 n (xs.flatMap (fun x=>[iv x])) (.slice a n cap) w∧I0 w∧True) (fun _:Unit=>⟨True,.bool (xs.any q),[],fun _=>True⟩):=by
 refine Aj Tryz.func130 Z Z fun X w0=>(Ab (Aa (oj (Ak Z Z (on (qn (Ab (Aa (oj (mv Z Z (oj (mv Z Z (oj (Ao Z Z (.cons Z (.cons Z .nil)) fb_193 (indexf_int I0 a n cap xs hn hn2 g fs cs q hg hq)  (fun w h=>⟨(h.1),(h.2.1),tR⟩) Z (fun _=>(Ae (fun w h=>h.2) (oj (gei Z Z Z (Ac (d:=8) (v:=.bool (xs.any q)) Z (by rw [Ix]) (oj (Ak Z Z (on ?_))))))))))))))))))))))
 exact qn (Af (As () Z (.tmp Z .nil) Z tR .slnil (fun w h=>tR) (.inl Z)))
def Fb (x:Int):Bool:=decide (x < 0) || decide (x≥2305843009213688669)
theorem Kg {x:Int}:Fb x=false↔0≤x∧x < 2305843009213688669:=by simp [Fb]
theorem outside1_spec (x:Int):Ay Tryz.prog 243 [iv x] [] (fun _=>True) (fun _:Unit=>⟨True,.bool (Fb x),[],fun _=>True⟩):=by
 refine Aj Tryz.func243 Z Z fun X w0=>(Ab (Aa (oj (Ak Z Z (on (qn (Ab (Aa (oj (mv Z Z (oj (Dd Z Z Z (oj (mv Z Z ?_))))))))))))))
 refine B5 (d:=5) Z (fun ht=>?_) (fun hf=>?_)
 ·exact oj (gf Z Z Z Z Z Z (oj (gf Z Z Z Z Z Z (oj (Cl Z Z Z (oj (Ak Z Z (on (qn (Af (Ac (d:=2) (v:=.bool (Fb x)) Z (by unfold Fb; simp only [*]; simp) (As () Z (.tmp Z .nil) Z tR .slnil (fun w h=>tR) (.inl Z)))))))))))))
 ·exact oj (gt Z Z Z ((mv Z Z (oj (gt Z Z Z ((gei Z Z Z (oj (Df Z Z Z (oj (Ak Z Z (on (qn (Af (Ac (d:=2) (v:=.bool (Fb x)) Z (by unfold Fb; simp only [*]; simp) (As () Z (.tmp Z .nil) Z tR .slnil (fun w h=>tR) (.inl Z)))))))))))))))))
theorem outside_spec (a:Option Addr) (n cap:Nat) (xs:List Int) (hn:xs.length=n) (hn2:n < 9223372036854775807):Ay Tryz.prog 188 [.slice a n cap] [] (fun w=>Sl 1 n (xs.flatMap (fun x=>[iv x])) (.slice a n cap) w∧True) (fun _:Unit=>⟨True,.bool (xs.any Fb),[],fun _=>True⟩):=by
 exact Aj Tryz.func188 Z Z fun X w0=>(Ab (Aa (oj (Ak Z Z (on (qn (Ab (Aa (oj (mv Z Z (oj (Ao Z Z (.cons Z (.cons Z .nil)) fb_130 (containsf_int (fun _=>True) a n cap xs hn hn2 243 [] [] Fb fb_243 (fun x _=>outside1_spec x))  (fun w h=>⟨(h.1),tR,tR⟩) Z (fun _=>(Ae (fun w h=>h.2) (oj (Ak Z Z (on (qn (Af (As () Z (.tmp Z .nil) Z tR .slnil (fun w h=>tR) (.inl Z)))))))))))))))))))))
def fE (a:Int):Int:=if Fb a=true then 1 else 0
def f2E (a b:Int):Int:=if (Fb a || Fb b)=true then 1 else 0
def fmul (a b:Int):Int:=if (Fb a || Fb b)=true then 0 else (a.toNat*b.toNat % 2305843009213688669:Nat)
def fadd (a b:Int):Int:=if (Fb a || Fb b)=true then 0 else (a+b) % 2305843009213688669
theorem any1 (a:Int):[a].any Fb=Fb a:=by simp
theorem any2 (a b:Int):[a,b].any Fb=(Fb a || Fb b):=by simp
theorem fcheck_spec (a:Int):Ay Tryz.prog 124 [iv a] [] (fun _=>True) (fun _:Unit=>⟨True,iv (fE a),[],fun _=>True⟩):=by
 refine Aj Tryz.func124 Z Z fun X w0=>(Ab (Aa (oj (Ak Z Z (on (qn (Ab (Ab (Aa (oj (mv Z Z (oj (F7 Z Tryz.underlying31 Ai Gd (C3 Z Z .nil) (by repeat (first | exact List.forall_mem_nil _ | refine List.forall_mem_cons.2 ⟨rfl,?_⟩)) Z (by decide) Z (fun r4=>?_))))))))))))))
 refine Al (Am 0 _ _ Z) ?_
 try dsimp only [List.eraseIdx]
 refine oj (Ao Z Z (.cons Z .nil) fb_188 (outside_spec (some ⟨r4,0,none⟩) 1 1 [a] Z (by omega))  (fun w h=>⟨Ee (h.1.1) Z Z,tR⟩) Z (fun _=>(Ae (fun w h=>h.2) (Ac (d:=5) (v:=.bool (Fb a)) Z (by rw [any1]) (on (qn ?_))))))
 refine Ap Z (fun ht=>?_) (fun hf=>?_)
 ·exact Ab (Aa (oj (Ak Z Z (on (qn (Af (qr (Ac (d:=2) (v:=iv (fE a)) Z (by rw [fE,if_pos ht]) (As () Z (.tmp Z .nil) Z tR .slnil (fun w h=>tR) (.inl Z))))))))))
 ·exact Ah (qn (Ab (Aa (oj (Ak Z Z (on (qn (Af (Ac (d:=2) (v:=iv (fE a)) Z (by rw [fE,if_neg (by rw [hf]; simp)]) (As () Z (.tmp Z .nil) Z tR .slnil (fun w h=>tR) (.inl Z)))))))))))
theorem product_spec (a b:Int) (ha:Fb a=false) (hb:Fb b=false):Ay Tryz.prog 217 [iv a,iv b] [] (fun _=>True) (fun _:Unit=>⟨True,iv (a.toNat*b.toNat % 2305843009213688669:Nat),[],fun _=>True⟩):=by
 refine Aj Tryz.func217 Z Z fun X w0=>?_
 have ha:=Kg.1 ha
 have hb:=Kg.1 hb
 refine Ab (Aa (oj (Ak Z Z (on (qn (Ab (Aa (oj (mv Z Z (oj (Ig Z Tryz.underlying3 Tryz.underlying205 Z (Ac (d:=11) (v:=nv a.toNat) Z (by rw [wrap_u (by omega) (by omega)]) (oj (mv Z Z (oj (Ig Z Tryz.underlying3 Tryz.underlying205 Z (Ac (d:=13) (v:=nv b.toNat) Z (by rw [wrap_u (by omega) (by omega)]) (oj (Ao Z Z (.cons Z (.cons Z .nil)) fb_244 (mul64_spec a.toNat b.toNat (by omega) (by omega))  (fun w h=>tR) Z (fun _=>(Ae (fun w h=>h.2) (oj (mv Z Z ?_)))))))))))))))))))))))
 refine oj (ext Z Z Z (oj (ext Z Z Z (oj (Ak Z Z (oj (Ak Z Z (on (qn (Ab (Aa (oj (mv Z Z (oj (mv Z Z ?_)))))))))))))))
 have hlt:a.toNat*b.toNat / 18446744073709551616 < 2305843009213688669:=by
  rw [Nat.div_lt_iff_lt_mul (by decide)]
  have h1:a.toNat*b.toNat≤2305843009213688669*b.toNat:=Nat.mul_le_mul_right _ (by omega)
  omega
 refine oj (Ao Z Z (.cons Z (.cons Z (.cons Z .nil))) fb_245 (div64_spec _ _ 2305843009213688669 (by decide) hlt (Nat.mod_lt _ (by decide)))  (fun w h=>tR) Z (fun _=>(Ae (fun w h=>h.2) (oj (mv Z Z (oj (ext Z Z Z (oj (ext Z Z Z (Ac (d:=22) (v:=nv (a.toNat*b.toNat % 2305843009213688669)) Z (by show nv (_ % _)=nv _; rw [show a.toNat*b.toNat / 18446744073709551616*18446744073709551616+a.toNat*b.toNat % 18446744073709551616=a.toNat*b.toNat from by omega]) (oj (Ak Z Z (oj (Ak Z Z (on (qn (Ab (Aa (oj (mv Z Z ?_))))))))))))))))))))
 have hml:a.toNat*b.toNat % 2305843009213688669 < 2305843009213688669:=Nat.mod_lt _ (by decide)
 exact oj (Ig Z Tryz.underlying205 Tryz.underlying3 Z (Ac (d:=24) (v:=iv (a.toNat*b.toNat % 2305843009213688669:Nat)) Z (by rw [Dr (by omega)]) (oj (Ak Z Z (on (qn (Af (As () Z (.tmp Z .nil) Z tR .slnil (fun w h=>tR) (.inl Z)))))))))
theorem fmul_spec (a b:Int):Ay Tryz.prog 163 [iv a,iv b] [] (fun _=>True) (fun _:Unit=>⟨True,.tuple #[iv (fmul a b),iv (f2E a b)],[],fun _=>True⟩):=by
 refine Aj Tryz.func163 Z Z fun X w0=>(Ab (Aa (oj (Ak Z Z (oj (Ak Z Z (on (qn (Ab (Ab (Aa (oj (mv Z Z (oj (mv Z Z (oj (F7 Z Tryz.underlying31 Ai Gd (C3 Z Z (C3 Z Z .nil)) (by repeat (first | exact List.forall_mem_nil _ | refine List.forall_mem_cons.2 ⟨rfl,?_⟩)) Z (by decide) Z (fun r8=>?_))))))))))))))))))
 refine Al (Am 0 _ _ Z) ?_
 try dsimp only [List.eraseIdx]
 refine oj (Ao Z Z (.cons Z .nil) fb_188 (outside_spec (some ⟨r8,0,none⟩) 2 2 [a,b] Z (by omega))  (fun w h=>⟨Ee (h.1.1) Z Z,tR⟩) Z (fun _=>(Ae (fun w h=>h.2) (Ac (d:=9) (v:=.bool (Fb a || Fb b)) Z (by rw [any2]) (on (qn ?_))))))
 refine Ap Z (fun ht=>?_) (fun hf=>?_)
 ·exact Ab (Aa (oj (Ak Z Z (oj (Ak Z Z (on (qn (Af (qr (Ac (d:=4) (v:=iv (fmul a b)) Z (by rw [fmul,if_pos ht]) (Ac (d:=5) (v:=iv (f2E a b)) Z (by rw [f2E,if_pos ht]) (As () Z (.tmp Z (.tmp Z .nil)) Z tR .slnil (fun w h=>tR) (.inl Z)))))))))))))
 ·have hab:Fb a=false∧Fb b=false:=by simpa using hf
  have h1:=Kg.1 hab.1
  have h2:=Kg.1 hab.2
  exact Ah (qn (Ab (Aa (oj (mv Z Z (oj (mv Z Z (oj (Ao Z Z (.cons Z (.cons Z .nil)) fb_217 (product_spec a b hab.1 hab.2)  (fun w h=>tR) Z (fun _=>(Ae (fun w h=>h.2) (oj (Ak Z Z (oj (Ak Z Z (on (qn (Af (Ac (d:=4) (v:=iv (fmul a b)) Z (by rw [fmul,if_neg (by rw [hf]; simp)]) (Ac (d:=5) (v:=iv (f2E a b)) Z (by rw [f2E,if_neg (by rw [hf]; simp)]) (As () Z (.tmp Z (.tmp Z .nil)) Z tR .slnil (fun w h=>tR) (.inl Z))))))))))))))))))))))
theorem fadd_spec (a b:Int):Ay Tryz.prog 164 [iv a,iv b] [] (fun _=>True) (fun _:Unit=>⟨True,.tuple #[iv (fadd a b),iv (f2E a b)],[],fun _=>True⟩):=by
 refine Aj Tryz.func164 Z Z fun X w0=>(Ab (Aa (oj (Ak Z Z (oj (Ak Z Z (on (qn (Ab (Ab (Aa (oj (mv Z Z (oj (mv Z Z (oj (F7 Z Tryz.underlying31 Ai Gd (C3 Z Z (C3 Z Z .nil)) (by repeat (first | exact List.forall_mem_nil _ | refine List.forall_mem_cons.2 ⟨rfl,?_⟩)) Z (by decide) Z (fun r8=>?_))))))))))))))))))
 refine Al (Am 0 _ _ Z) ?_
 try dsimp only [List.eraseIdx]
 refine oj (Ao Z Z (.cons Z .nil) fb_188 (outside_spec (some ⟨r8,0,none⟩) 2 2 [a,b] Z (by omega))  (fun w h=>⟨Ee (h.1.1) Z Z,tR⟩) Z (fun _=>(Ae (fun w h=>h.2) (Ac (d:=9) (v:=.bool (Fb a || Fb b)) Z (by rw [any2]) (on (qn ?_))))))
 refine Ap Z (fun ht=>?_) (fun hf=>?_)
 ·exact Ab (Aa (oj (Ak Z Z (oj (Ak Z Z (on (qn (Af (qr (Ac (d:=4) (v:=iv (fadd a b)) Z (by rw [fadd,if_pos ht]) (Ac (d:=5) (v:=iv (f2E a b)) Z (by rw [f2E,if_pos ht]) (As () Z (.tmp Z (.tmp Z .nil)) Z tR .slnil (fun w h=>tR) (.inl Z)))))))))))))
 ·have hab:Fb a=false∧Fb b=false:=by simpa using hf
  have h1:=Kg.1 hab.1
  have h2:=Kg.1 hab.2
  refine Ah (qn (Ab (Aa (oj (mv Z Z (oj (mv Z Z (oj (add Z Z Z (by omega) (oj (rem Z Z Z (by decide) (Ac (d:=13) (v:=iv ((a+b) % 2305843009213688669)) Z (by rw [Int.tmod_eq_emod_of_nonneg (by omega)]) (oj (Ak Z Z (oj (Ak Z Z (on (qn (Af (Ac (d:=4) (v:=iv (fadd a b)) Z (by rw [fadd,if_neg (by rw [hf]; simp)]) (Ac (d:=5) (v:=iv (f2E a b)) Z (by rw [f2E,if_neg (by rw [hf]; simp)]) ?_)))))))))))))))))))))
  exact As () Z (.tmp Z (.tmp Z .nil)) Z tR .slnil (fun w h=>tR) (.inl Z)
def gmE (a b:Int):Int:=if el a=true∧el b=true then 0 else 40
def gmV (a b:Int):Int:=if el a=true∧el b=true then (a.toNat*b.toNat % 4611686018427377339:Nat) else 0
theorem gmul_spec (a b:Int):Ay Tryz.prog 127 [iv a,iv b] [] (fun _=>True) (fun _:Unit=>⟨True,.tuple #[iv (gmV a b),iv (gmE a b)],[],fun _=>True⟩):=by
 refine Aj Tryz.func127 Z Z fun X w0=>(Ab (Aa (oj (Ak Z Z (oj (Ak Z Z (on (qn (Ab (Ab (Aa (oj (mv Z Z (oj (mv Z Z (oj (bda Z Tryz.underlying257 Ai zok_257 (C3 Z Z (C3 Z Z .nil)) (by simp) Z Z (oj (mv Z Z (on (qn ?_)))))))))))))))))))))
 refine Ag (Aw (fun (sT:(Nat))=>(⟨sT≤2∧(0 < sT→el a=true)∧(1 < sT→el b=true),[(0,iv a),(1,iv b),(4,iv 0),(11,.agg #[iv a,iv b]),(12,iv (sT:Int))],[],fun _=>True,2-sT⟩:Hd)) (0) (by (try dsimp only); omega) (⟨Z,Z,Z,Z,Z,tR⟩) .slnil (fun w h=>tR) ?_)
 rintro i ⟨hi,h1,h2⟩
 try dsimp only
 refine Ab (Aa (oj (Dd Z Z Z (on (qn (Ab ?_))))))
 refine A8 Z (fun ht=>?_) (fun hf=>?_)
 ·obtain ⟨x,hx,hel⟩:∃ x,([iv a,iv b]:List Value)[i]? = some (iv x)∧(x=a∧i=0∨x=b∧i=1):=by
   match i,ht with
   | 0,_=>exact ⟨a,rfl,.inl ⟨rfl,rfl⟩⟩
   | 1,_=>exact ⟨b,rfl,.inr ⟨rfl,rfl⟩⟩
   | i+2,h=>omega
  refine Ah (qn (Ab (Ag (Ab (Aa (oj (ixv1 Z Z Z Tryz.underlying257 Ai Z (by omega) (hx) (oj (Ak Z Z (on (qn (Ab (Aa (oj (mv Z Z (oj (Ao Z Z (.cons Z .nil) J2 (Dq x)  (fun w h=>tR) Z (fun _=>(Ae (fun w h=>h.2) (oj (Ak Z Z ?_)))))))))))))))))))))
  refine on (qn (Ab (Aa (oj (mv Z Z (oj (G2 Z Z Z (on (qn ?_)))))))))
  refine C5 Z (fun ht=>?_) (fun hf=>?_)
  ·have hx0 : ¬ el x=true:=fun h=>by rw [elE,if_pos h] at ht; omega
   have hx1 : ¬ (el a=true∧el b=true):=fun h=>by rcases hel with ⟨rfl,_⟩ | ⟨rfl,_⟩ <;> simp_all
   exact Ab (Aa (oj (mv Z Z (oj (Ak Z Z (oj (Ak Z Z (on (qn (Af (br (qr (qr (br (qr (Ac (d:=4) (v:=iv (gmV a b)) Z (by rw [gmV,if_neg hx1]) (Ac (d:=5) (v:=iv (gmE a b)) Z (by rw [gmE,if_neg hx1,elE,if_neg hx0]) (As () Z (.tmp Z (.tmp Z .nil)) Z tR .slnil (fun w h=>tR) (.inl Z)))))))))))))))))))
  ·have hx0:el x=true:=by
    by_cases h:el x=true
    ·exact h
    ·rw [elE,if_neg h] at hf; omega
   have n1:0 < i+1→el a=true:=fun _=>by
    rcases hel with ⟨rfl,_⟩ | ⟨rfl,h0⟩
    ·exact hx0
    ·exact h1 (by omega)
   have n2:1 < i+1→el b=true:=fun h=>by
    rcases hel with ⟨rfl,h0⟩ | ⟨rfl,_⟩
    ·omega
    ·exact hx0
   exact Ah (bn (qn (Aa (oj (add Z Z Z (by omega) (oj (mv Z Z (on (qn (Ar (i+1) (by dsimp only; omega) (⟨by (try dsimp only); omega,n1,n2⟩) (⟨Z,Z,Z,Z,Z,tR⟩) .slnil (fun w h=>tR)))))))))))
 ·have ha:=Gh.1 (h1 (by omega))
  have hb:=Gh.1 (h2 (by omega))
  refine A1 (qe (qe (be (qn (Ab (Aa (oj (mv Z Z (oj (Ig Z Tryz.underlying3 Tryz.underlying205 Z (Ac (d:=22) (v:=nv a.toNat) Z (by rw [wrap_u (by omega) (by omega)]) (oj (mv Z Z (oj (Ig Z Tryz.underlying3 Tryz.underlying205 Z (Ac (d:=24) (v:=nv b.toNat) Z (by rw [wrap_u (by omega) (by omega)]) (oj (Ao Z Z (.cons Z (.cons Z .nil)) fb_189 (times_spec a.toNat b.toNat (by omega) (by omega))  (fun w h=>tR) Z (fun _=>(Ae (fun w h=>h.2) ?_))))))))))))))))))))
  have hml:a.toNat*b.toNat % 4611686018427377339 < 4611686018427377339:=Nat.mod_lt _ (by decide)
  refine oj (Ig Z Tryz.underlying205 Tryz.underlying3 Z (Ac (d:=26) (v:=iv (a.toNat*b.toNat % 4611686018427377339:Nat)) Z (by rw [Dr (by omega)]) (oj (Ak Z Z (oj (Ak Z Z (on (qn (Af ?_)))))))))
  have hab:el a=true∧el b=true:=⟨h1 (by omega),h2 (by omega)⟩
  exact Ac (d:=4) (v:=iv (gmV a b)) Z (by rw [gmV,if_pos hab]) (Ac (d:=5) (v:=iv (gmE a b)) Z (by rw [gmE,if_pos hab]) (As () Z (.tmp Z (.tmp Z .nil)) Z tR .slnil (fun w h=>tR) (.inl Z)))
def sbN (x:Int):Nat→List UInt8
 | 0=>[]
 | j+1=>sbN x j++[UInt8.ofNat ((IntKind.wrap .u64 x).toNat / 2 ^ (56-8*j))]
def sbs (xs:List Int):List UInt8:=xs.flatMap fun x=>sbN x 8
theorem Ht (x:Int):∀ j,(sbN x j).length=j
 | 0=>rfl
 | j+1=>by rw [sbN,List.length_append,Ht x j]; rfl
theorem Jy (xs:List Int):(sbs xs).length=8*xs.length:=by
 induction xs with
 | nil=>rfl
 | cons x xs ih=>simp only [sbs,List.flatMap_cons,List.length_append,Ht,List.length_cons] at ih ⊢; omega
theorem sbs_snoc {xs:List Int} {i:Nat} {x:Int} (h:xs[i]? = some x):sbs (xs.take (i+1))=sbs (xs.take i)++sbN x 8:=by rw [A7 h]; simp [sbs]
theorem shash_spec (tag:ByteArray) (ht:tag.data.toList.length≤1000000) (msg:List UInt8) (am:Option Addr) (cm:Nat) (hcm:msg.length≤cm) (hmsg:msg.length≤100000000000) (a:Option Addr) (n cap:Nat) (xs:List Int) (hn:xs.length=n) (hn2:n≤1000):Ay Tryz.prog 126 [.string tag,.slice am msg.length cm,.slice a n cap] [] (fun w=>Sl 1 n (xs.flatMap (fun x=>[iv x])) (.slice a n cap) w∧Sl 1 msg.length (An msg) (.slice am msg.length cm) w∧De 1 (Av .u32 B9) w∧De 3 (Av .u32 D1) w∧True) (fun _:Unit=>⟨True,iv (scal tag.data.toList (sbs xs++msg):Nat),[],fun _=>True⟩):=by
 refine Aj Tryz.func126 Z Z fun X w0=>(Cx (Ab (Aa (oj (Ak Z Z (on (qn (Ab (Aa (oj (Ak Z Z (on (qn (Ab (Ab (Aa (oj (mv Z Z ?_))))))))))))))))))
 refine oj (Bn Z Z Tryz.underlying31 Z (oj (mv Z Z (on (qn (Ag (Aw (fun (sT:(Nat) × (Value) × (A9))=>(⟨sT.1≤n∧Own 5 1 sT.2.1 (8*sT.1) (An (sbs (xs.take sT.1))) sT.2.2,[(0,.string tag),(1,.slice am msg.length cm),(7,sT.2.1),(11,.slice a n cap),(12,iv n),(13,iv (sT.1:Int))],[sT.2.2],fun w=>Sl 1 n (xs.flatMap (fun x=>[iv x])) (.slice a n cap) w∧Sl 1 msg.length (An msg) (.slice am msg.length cm) w∧De 1 (Av .u32 B9) w∧De 3 (Av .u32 D1) w∧True,n-sT.1⟩:Hd)) (0,.slice none 0 0,none) (⟨Nat.zero_le _,.nil⟩) (⟨Z,Z,Z,Z,Z,Z,tR⟩) (.refl _) (fun w h=>⟨(h.1),(h.2.1),(h.2.2.1),(Cu h),tR⟩) ?_)))))))
 rintro ⟨i,v,en⟩ ⟨hi,ho⟩
 try dsimp only
 try dsimp only at hi ho
 refine Ab (Aa (oj (Dd Z Z Z (on (qn (Ab ?_))))))
 refine A8 Z (fun ht=>?_) (fun hf=>?_)
 ·obtain ⟨x,hx⟩:∃ x,xs[i]? = some x:=⟨_,List.getElem?_eq_getElem (by omega)⟩
  refine Ah (qn (Ab (Ag (Ab (Aa (oj (Fc Z Z Z Tryz.underlying31 Ai (by omega) (fun w h=>Sl.some (h.1) (by omega)) (oj (A4 Z Z Ai (fun w h=>Sl.elem1 (h.1) (Dh hx)) (oj (Ak Z Z (on (qn (Ab (Aa (oj (Ak Z Z (on (qn ?_)))))))))))))))))))
  refine Ag (Aw (fun (sT:(Nat) × (Value) × (A9))=>(⟨sT.1≤8∧Own 5 1 sT.2.1 (8*i+sT.1) (An (sbs (xs.take i)++sbN x sT.1)) sT.2.2,[(0,.string tag),(1,.slice am msg.length cm),(7,sT.2.1),(9,iv x),(10,iv (56-8*(sT.1:Int))),(11,.slice a n cap),(12,iv n),(13,iv (i:Int))],[sT.2.2],fun w=>Sl 1 n (xs.flatMap (fun x=>[iv x])) (.slice a n cap) w∧Sl 1 msg.length (An msg) (.slice am msg.length cm) w∧De 1 (Av .u32 B9) w∧De 3 (Av .u32 D1) w∧True,8-sT.1⟩:Hd)) (0,v,en) (⟨Nat.zero_le _,by simpa [sbN] using ho⟩) (⟨Z,Z,Z,Z,Z,Z,Z,Z,tR⟩) (.refl _) (fun w h=>⟨(h.1),(h.2.1),(h.2.2.1),(Cu h),tR⟩) ?_)
  rintro ⟨j,v,en⟩ ⟨hj,ho⟩
  try dsimp only
  try dsimp only at hj ho
  refine Ab (Ab (Aa (oj (mv Z Z (oj (gei Z Z Z (on (qn ?_))))))))
  refine A8 Z (fun ht=>?_) (fun hf=>?_)
  ·refine Ah (qn (Ab (Ag (Aa (oj (mv Z Z (oj (mv Z Z (oj (Ig Z Tryz.underlying3 Tryz.underlying205 Z (Ac (d:=23) (v:=nv (IntKind.wrap .u64 x).toNat) Z (u64_nv _) (oj (mv Z Z (oj (shrN Z Z Z Z (show (56-8*(j:Int))=((56-8*j:Nat):Int) by omega) (by omega) (oj (Ig Z Tryz.underlying205 Tryz.underlying5 Z (Ac (d:=26) Z (by rw [byte_of]) (oj (F7 Z Tryz.underlying53 Bv zok_5 (C3 Z Z .nil) (by repeat (first | exact List.forall_mem_nil _ | refine List.forall_mem_cons.2 ⟨rfl,?_⟩)) Z (by decide) Z (fun r27=>?_)))))))))))))))))))))
   refine oj (Ku Z Z Z Hj (by kernel_rfl) ho (i:=1) Z (fun w ho h=>Src.slice (Bc.at (r:=r27) (te:=5) (ho _ _ (.head _)) (fun j v hv=>by rw [Nat.zero_add]; exact hv)) Z Z) (by omega) (by simp only [maxLen]; omega) (fun v28 e28 ho28=>?_))
   try dsimp only [List.set]
   exact oj (Ak Z Z (on (bn (qn (Aa (oj (mv Z Z (oj (sub Z Z Z (by omega) (Ac (d:=20) (v:=iv (56-8*((j+1:Nat):Int))) Z (by congr 1; omega) (oj (Ak Z Z (on (qn (Ar (j+1,v28,e28) (by dsimp only; omega) (⟨by (try dsimp only); omega,by rw [sbN,← List.append_assoc,Cs]; exact ho28⟩) (⟨Z,Z,Z,Z,Z,Z,Z,Z,tR⟩) (.cons _ (.refl _)) (fun w h=>⟨(h.1),(h.2.1),(h.2.2.1),(Cu h),tR⟩))))))))))))))))
  ·have h8:j=8:=by omega
   subst h8
   exact A1 (qe (qe (be (bn (qn (Aa (oj (add Z Z Z (by omega) (oj (mv Z Z (on (qn (Ar (i+1,v,en) (by dsimp only; omega) (⟨by (try dsimp only); omega,by rw [sbs_snoc hx]; exact ho⟩) (⟨Z,Z,Z,Z,Z,Z,tR⟩) (.refl _) (fun w h=>⟨(h.1),(h.2.1),(h.2.2.1),(Cu h),tR⟩))))))))))))))
 ·have h4:i=n:=by omega
  subst h4
  rw [List.take_of_length_le (by omega)] at ho
  refine A1 (qe (qe (be (qn (Ab (Aa (oj (mv Z Z (oj (mv Z Z (oj (mv Z Z (oj (Ku Z Z Z Hj (by kernel_rfl) ho (i:=0) Z (fun w ho h=>(h.2.1).src) (by omega) (by simp only [maxLen]; omega) (fun v33 e33 ho33=>?_)))))))))))))))
  try dsimp only [List.set]
  have hsl:=Jy xs
  have hcat:An (sbs xs)++An msg=An (sbs xs++msg):=(Cs _ _).symm
  rw [hcat] at ho33
  have hle:8*i+msg.length=(sbs xs++msg).length:=by rw [List.length_append]; omega
  rw [hle] at ho33
  obtain ⟨av,cv,rfl,hcv⟩:=ho33.shape'
  refine By (i:=0) Z ho33 (Co _) ?_
  try dsimp only [List.eraseIdx]
  exact oj (Ao Z Z (.cons Z (.cons Z .nil)) fb_171 (scalar_spec tag ht (sbs xs++msg) av cv hcv (by omega))  (fun w h=>⟨(h.1.1),(Cu h),(Dw h),tR⟩) Z (fun _=>(Ae (fun w h=>h.2) (oj (Ak Z Z (on (qn (Af (As () Z (.tmp Z .nil) Z tR .slnil (fun w h=>tR) (.inl Z))))))))))
def kv (x:Int):Bool:=decide (x≥1) && decide (x < 2305843009213688669)
theorem kv_iff {x:Int}:kv x=true↔1≤x∧x < 2305843009213688669:=by simp [kv]
def puV (x:Int):Int:=if kv x=true then Iz x else 0
def puE (x:Int):Int:=if kv x=true then 0 else 50
def Jv:List UInt8:=[115,105,103,110]
noncomputable def verB (p:Int) (msg:List UInt8) (r s:Int):Bool :=
 el p && el r && !Fb s && (Iz s == gmV r (exV p (scal Jv (sbs [r,p]++msg):Nat)))
theorem kvalid_spec (x:Int):Ay Tryz.prog 93 [iv x] [] (fun _=>True) (fun _:Unit=>⟨True,.bool (kv x),[],fun _=>True⟩):=by
 refine Aj Tryz.func93 Z Z fun X w0=>(Ab (Aa (oj (Ak Z Z (on (qn (Ab (Aa (oj (mv Z Z (oj (gei Z Z Z (oj (mv Z Z ?_))))))))))))))
 refine B5 (d:=5) Z (fun ht=>?_) (fun hf=>?_)
 ·exact oj (gt Z Z Z ((mv Z Z (oj (gt Z Z Z ((Dd Z Z Z (oj (Cl Z Z Z (oj (Ak Z Z (on (qn (Af (Ac (d:=2) (v:=.bool (kv x)) Z (by unfold kv; simp only [*]; simp) (As () Z (.tmp Z .nil) Z tR .slnil (fun w h=>tR) (.inl Z)))))))))))))))))
 ·exact oj (gf Z Z Z Z Z Z (oj (gf Z Z Z Z Z Z (oj (Df Z Z Z (oj (Ak Z Z (on (qn (Af (Ac (d:=2) (v:=.bool (kv x)) Z (by unfold kv; simp only [*]; simp) (As () Z (.tmp Z .nil) Z tR .slnil (fun w h=>tR) (.inl Z)))))))))))))
theorem kpublic_spec (x:Int):Ay Tryz.prog 94 [iv x] [] (fun _=>True) (fun _:Unit=>⟨True,iv (Iz x),[],fun _=>True⟩):=by
 refine Aj Tryz.func94 Z Z fun X w0=>(Ab (Aa (oj (Ak Z Z (on (qn (Ab (Aa (oj (mv Z Z (oj (Ao Z Z (.cons Z .nil) fb_125 (base_spec x)  (fun w h=>tR) Z (fun _=>(Ae (fun w h=>h.2) (oj (mv Z Z (oj (ext Z Z Z (oj (ext Z Z Z (oj (Ak Z Z (oj (Ak Z Z ?_))))))))))))))))))))))))
 exact on (qn (Ab (Aa (oj (mv Z Z (oj (Ak Z Z (on (qn (Af (As () Z (.tmp Z .nil) Z tR .slnil (fun w h=>tR) (.inl Z))))))))))))
theorem J0 (x:Int):Ay Tryz.prog 25 [iv x] [] (fun _=>True) (fun _:Unit=>⟨True,.tuple #[iv (puV x),iv (puE x)],[],fun _=>True⟩):=by
 refine Aj Tryz.func25 Z Z fun X w0=>(Ab (Aa (oj (Ak Z Z (oj (Ak Z Z (on (qn (Ab (Ab (Aa (oj (mv Z Z (oj (Ao Z Z (.cons Z .nil) fb_93 (kvalid_spec x)  (fun w h=>tR) Z (fun _=>(Ae (fun w h=>h.2) (oj (not Z Z (on (qn ?_)))))))))))))))))))))
 refine Ap Z (fun ht=>?_) (fun hf=>?_)
 ·refine Ab (Aa (oj (Ak Z Z (oj (Ak Z Z (on (qn (Af (qr ?_)))))))))
  have hk : ¬ kv x=true:=by simpa using ht
  exact Ac (d:=2) (v:=iv (puV x)) Z (by rw [puV,if_neg hk]) (Ac (d:=3) (v:=iv (puE x)) Z (by rw [puE,if_neg hk]) (As () Z (.tmp Z (.tmp Z .nil)) Z tR .slnil (fun w h=>tR) (.inl Z)))
 ·refine Ah (qn (Ab (Aa (oj (mv Z Z (oj (Ao Z Z (.cons Z .nil) fb_94 (kpublic_spec x)  (fun w h=>tR) Z (fun _=>(Ae (fun w h=>h.2) (oj (Ak Z Z (oj (Ak Z Z (on (qn (Af ?_))))))))))))))))
  have hk:kv x=true:=by simpa using hf
  exact Ac (d:=2) (v:=iv (puV x)) Z (by rw [puV,if_pos hk]) (Ac (d:=3) (v:=iv (puE x)) Z (by rw [puE,if_pos hk]) (As () Z (.tmp Z (.tmp Z .nil)) Z tR .slnil (fun w h=>tR) (.inl Z)))
theorem Ed {a:Int}:elE a=0↔el a=true:=by unfold elE; by_cases h:el a=true <;> simp [h]
theorem fE_zero {a:Int}:fE a=0↔Fb a=false:=by unfold fE; cases h:Fb a <;> simp
theorem verify_spec (p:Int) (msg:List UInt8) (am:Option Addr) (cm:Nat) (hcm:msg.length≤cm) (hmsg:msg.length≤100000000000) (r s:Int):Ay Tryz.prog 50 [iv p,.slice am msg.length cm,av [S1 (iv r),S1 (iv s)]] [] (fun w=>Sl 1 msg.length (An msg) (.slice am msg.length cm) w∧De 1 (Av .u32 B9) w∧De 3 (Av .u32 D1) w∧True) (fun _:Unit=>⟨True,.bool (verB p msg r s),[],fun _=>True⟩):=by
 refine Aj Tryz.func50 Z Z fun X w0=>(Ab (Aa (oj (C6 Z Z (fun r5=>(oj (Ak Z Z (on (qn (Ab (A5 mo (A3 [0,1,2,3,4,5,6,7,8,9] (fun j=>Nat.beq j 9) (by kernel_rfl) Z Z (.det _ (fun Q K R m k=>(mv Z Z k)) (.det _ (fun Q K R m k=>(Ao Z Z (.cons Z .nil) J2 (Dq p)  (fun w h=>tR) Z (fun _=>Ae (fun w h=>h.2) k))) (.det _ (fun Q K R m k=>(A2 (o':=0) Z Z H9 Ai Z k)) (.det _ (fun Q K R m k=>(Bh Z Z Ai (.head _) (Z) k)) (.det _ (fun Q K R m k=>(Ao Z Z (.cons Z .nil) J2 (Dq r)  (fun w h=>tR) Z (fun _=>Ae (fun w h=>h.2) k))) (.det _ (fun Q K R m k=>(A2 (o':=1) Z Z Km Ai Z k)) ?_))))))))))))))))))
 refine .det _ (fun Q K R m k=>(Bh Z Z Ai (.head _) (Z) k)) (.det _ (fun Q K R m k=>(Ao Z Z (.cons Z .nil) fb_124 (fcheck_spec s)  (fun w h=>tR) Z (fun _=>Ae (fun w h=>h.2) k))) (.det _ (fun Q K R m k=>(bda Z Tryz.underlying184 ty_41 zok_184 (C3 (v:=iv (elE p)) Z Z (C3 (v:=iv (elE r)) Z Z (C3 (v:=iv (fE s)) Z Z .nil))) (by simp) Z Z k)) (.gh (γ:=Nat) (fun _=>True) _ _ (fun _ _=>True) Z (fun Q K R k=>(C7 Z zok_184 (fun r7=>Fp (Ae (fun w h=>⟨⟨tR,h.1⟩,h.2⟩) (k r7 tR))))) (fun _=>by exact ⟨_,rfl⟩) ?_)))
 rintro r7 _
 try dsimp only [List.nil_append,List.cons_append]
 refine .nil (Ad 10 (Ac (d:=22) (v:=.agg (Gi .i64 3 [elE p,elE r,fE s] Z).cs.toArray) Z (by rfl) ((Cf Z Z ty_184 Z (.tail .head) (.head Z) Z (A6 (qn (Ab (Ab (Aa (oj (Js Z Z ty_184 (.tail _ (.head _)) Z Z (Ac (d:=23) (v:=.agg (Av .i64 [elE p,elE r,fE s]).toArray) Z (by rfl) (oj (bdzA Z Tryz.underlying184 ty_41 zok_184 (Ac (d:=24) (v:=.agg (Av .i64 [0,0,0]).toArray) Z (by rfl) (oj (nea (k:=.i64) (xs:=[elE p,elE r,fE s]) (ys:=[0,0,0]) Z Z Z Tryz.underlying184 Tryz.underlying41 ty_41 eg_184 Z Z (on (qn ?_)))))))))))))))))))
 refine Ap Z (fun ht=>?_) (fun hf=>?_)
 ·have hn : ¬ (el p=true∧el r=true∧Fb s=false):=fun ⟨h1,h2,h3⟩=>by simp [Ed.2 h1,Ed.2 h2,fE_zero.2 h3] at ht
  refine Ab (Aa (oj (Ak Z Z (on (qn (Af (qr ?_)))))))
  exact Ac (d:=6) (v:=.bool (verB p msg r s)) Z (by congr 1; symm; unfold verB; cases h1:el p <;> cases h2:el r <;> cases h3:Fb s <;> simp_all) (As () Z (.tmp Z .nil) Z tR (Bl _) (fun w h=>tR) (.inl Z))
 ·have hn:elE p=0∧elE r=0∧fE s=0:=by simpa using hf
  have h1:=Ed.1 hn.1
  have h2:=Ed.1 hn.2.1
  have h3:=fE_zero.1 hn.2.2
  refine Ah (qn (Ab (Aa (oj (A2 (o':=1) Z Z Km Ai Z (oj (Bh Z Z Ai (.head _) (Z) (oj (Ao Z Z (.cons Z .nil) fb_125 (base_spec s)  (fun w h=>tR) Z (fun _=>(Ae (fun w h=>h.2) (oj (mv Z Z (oj (ext Z Z Z (oj (ext Z Z Z (oj (Ak Z Z (oj (Ak Z Z (on (qn (Ab ?_))))))))))))))))))))))))
  refine Aa (oj (mv Z Z (oj (mv Z Z (oj (A2 (o':=0) Z Z H9 Ai Z (oj (Bh Z Z Ai (.head _) (Z) (oj (mv Z Z (oj (F7 Z Tryz.underlying31 Ai Gd (C3 Z Z (C3 Z Z .nil)) (by repeat (first | exact List.forall_mem_nil _ | refine List.forall_mem_cons.2 ⟨rfl,?_⟩)) Z (by decide) Z (fun r38=>?_)))))))))))))
  refine Al (Am 0 _ _ Z) ?_
  try dsimp only [List.eraseIdx]
  refine oj (Ao Z Z (.cons Z (.cons Z (.cons Z .nil))) fb_126 (shash_spec _ (by decide) msg am cm hcm hmsg (some ⟨r38,0,none⟩) 2 2 [r,p] Z (by omega))  (fun w h=>⟨Ee (h.1.1) Z Z,(h.2.2.1),(Cu h),(Dw h),tR⟩) Z (fun _=>(Ae (fun w h=>h.2) (oj (Ao Z Z (.cons Z (.cons Z .nil)) fb_103 (exp_spec p (scal Jv (sbs [r,p]++msg):Nat))  (fun w h=>tR) Z (fun _=>(Ae (fun w h=>h.2) (oj (mv Z Z (oj (ext Z Z Z (oj (ext Z Z Z (oj (Ak Z Z (oj (Ak Z Z (on (qn (Ab (Aa (oj (A2 (o':=0) Z Z H9 Ai Z (oj (Bh Z Z Ai (.head _) (Z) (oj (mv Z Z ?_)))))))))))))))))))))))))))
  refine oj (Ao Z Z (.cons Z (.cons Z .nil)) fb_127 (gmul_spec r (exV p (scal Jv (sbs [r,p]++msg):Nat)))  (fun w h=>tR) Z (fun _=>(Ae (fun w h=>h.2) (oj (mv Z Z (oj (ext Z Z Z (oj (ext Z Z Z (oj (Ak Z Z (oj (Ak Z Z (on (qn (Ab (Aa (oj (mv Z Z (oj (mv Z Z (oj (Eu Z Z Z (oj (Ak Z Z (on ?_))))))))))))))))))))))))))
  exact qn (Af (Ac (d:=6) (v:=.bool (verB p msg r s)) Z (by unfold verB; rw [h1,h2,h3]; rfl) (As () Z (.tmp Z .nil) Z tR (Bl _) (fun w h=>tR) (.inl Z))))
def tagNonce:List UInt8:=[110,111,110,99,101]
noncomputable def sgK (x:Int) (msg:List UInt8):Int:=(scal tagNonce (sbs [x]++msg):Nat)
noncomputable def sgR (x:Int) (msg:List UInt8):Int:=Iz (sgK x msg)
noncomputable def sgH (x:Int) (msg:List UInt8):Int:=(scal Jv (sbs [sgR x msg,Iz x]++msg):Nat)
noncomputable def sgM (x:Int) (msg:List UInt8):Int:=fmul (sgH x msg) x
noncomputable def sgZ (x:Int) (msg:List UInt8):Int:=fadd (sgK x msg) (sgM x msg)
noncomputable def signR (x:Int) (msg:List UInt8):Int:=if kv x=true then sgR x msg else 0
noncomputable def signS (x:Int) (msg:List UInt8):Int:=if kv x=true then sgZ x msg else 0
noncomputable def signE (x:Int) (msg:List UInt8):Int:=if kv x=true then f2E (sgK x msg) (sgM x msg) else 50
theorem sign_spec (x:Int) (msg:List UInt8) (am:Option Addr) (cm:Nat) (hcm:msg.length≤cm) (hmsg:msg.length≤100000000000):Ay Tryz.prog 85 [iv x,.slice am msg.length cm] [] (fun w=>Sl 1 msg.length (An msg) (.slice am msg.length cm) w∧De 1 (Av .u32 B9) w∧De 3 (Av .u32 D1) w∧True) (fun _:Unit=>⟨True,.tuple #[av [S1 (iv (signR x msg)),S1 (iv (signS x msg))],iv (signE x msg)],[],fun _=>True⟩):=by
 refine Aj Tryz.func85 Z Z fun X w0=>(Ab (Aa (oj (C7 Z zok_35 (fun r4=>(oj (Ak Z Z (on (qn (Ab (Aa (oj (mv Z Z (oj (Ak Z Z (on (qn (Ab (Aa (oj (mv Z Z ?_)))))))))))))))))))))
 refine oj (mkF Z (.cons Z .nil) .nil (oj (mv Z Z (oj (mkF Z (.cons Z .nil) .nil (oj (Ak Z Z (oj (Ak Z Z (on (qn (Ab (Ab (Aa (oj (mv Z Z (oj (Ao Z Z .nil fb_93 (kvalid_spec x)  (fun w h=>tR) Z (fun _=>(Ae (fun w h=>h.2) (oj (not Z Z (on (qn ?_))))))))))))))))))))))))
 refine Ap Z (fun ht=>?_) (fun hf=>?_)
 ·have hk : ¬ kv x=true:=by simpa using ht
  exact Ab (Aa (oj (Eb Z Z In (.head _) Z (oj (C0 Z Z In Z Z .head (oj (Ak Z Z (on (qn (Af (qr (Ac (d:=5) (v:=iv (signE x msg)) Z (by rw [signE,if_neg hk]) (As () Z (.cellW Z In (.head _) Z (.tmp Z .nil)) (by show Value.tuple #[av [S1 (iv 0),S1 (iv 0)],_]=_; rw [signR,signS,if_neg hk,if_neg hk]) tR (Bl _) (fun w h=>tR) (.inl Z))))))))))))))
 ·have hk:kv x=true:=by simpa using hf
  refine Ah (qn (Ab (Aa (oj (mv Z Z (oj (mv Z Z (oj (F7 Z Tryz.underlying31 Ai Gd (C3 Z Z .nil) (by repeat (first | exact List.forall_mem_nil _ | refine List.forall_mem_cons.2 ⟨rfl,?_⟩)) Z (by decide) Z (fun r23=>?_))))))))))
  refine Al (Am 0 _ _ Z) ?_
  try dsimp only [List.eraseIdx]
  refine oj (Ao Z Z (.cons Z (.cons Z (.cons Z .nil))) fb_126 (shash_spec _ (by decide) msg am cm hcm hmsg (some ⟨r23,0,none⟩) 1 1 [x] Z (by omega))  (fun w h=>⟨Ee (h.1.1) Z Z,(h.2.1),(h.2.2.1),(Cu h),tR⟩) Z (fun _=>(Ae (fun w h=>h.2) (Ac (d:=24) (v:=iv (sgK x msg)) Z (by rfl) (oj (Ak Z Z (on (qn (Ab (Aa (oj (mv Z Z (oj (Ao Z Z (.cons Z .nil) fb_125 (base_spec (sgK x msg))  (fun w h=>tR) Z (fun _=>(Ae (fun w h=>h.2) (oj (mv Z Z (oj (ext Z Z Z (oj (ext Z Z Z (oj (A2 (o':=0) Z Z H9 Ai Z (oj (Cr Z Z Ai Z .head (.head Z) Z ?_))))))))))))))))))))))))))
  refine on (qn (Ab (A5 mo (A3 [0,1,2,3,4,7,5,6] (fun j=>Nat.beq j 5) (by kernel_rfl) Z Z (.det _ (fun Q K R m k=>(mv Z Z k)) (.det _ (fun Q K R m k=>(A2 (o':=0) Z Z H9 Ai Z k)) (.det _ (fun Q K R m k=>(Bh Z Z Ai (.head _) (Z) k)) (.det _ (fun Q K R m k=>(mv Z Z k)) (.det _ (fun Q K R m k=>(Ao Z Z .nil fb_94 (kpublic_spec x)  (fun w h=>tR) Z (fun _=>Ae (fun w h=>h.2) k))) (.det _ (fun Q K R m k=>(mv Z Z k)) (.gh (γ:=Nat) (fun _=>True) _ _ _ Z (fun Q K R k=>(F7 Z Tryz.underlying31 Ai Gd (C3 (v:=iv (sgR x msg)) Z Z (C3 (v:=iv (Iz x)) Z Z .nil)) (by repeat (first | exact List.forall_mem_nil _ | refine List.forall_mem_cons.2 ⟨rfl,?_⟩)) Z (by decide) Z (fun r37=>Al (.refl _) (Ae (fun w h=>⟨⟨h.1,h.2.1⟩,h.2.2⟩) (k r37 tR))))) (fun _=>by exact ⟨[],by simp⟩) ?_)))))))))))
  rintro r37 _
  try dsimp only [List.nil_append,List.cons_append]
  refine .det _ (fun Q K R m k=>(Ao Z Z (.cons Z (.cons Z (.cons Z .nil))) fb_126 (shash_spec _ (by decide) msg am cm hcm hmsg (some ⟨r37,0,none⟩) 2 2 [sgR x msg,Iz x] Z (by omega))  (fun w h=>⟨Ee (h.1.1.1) Z Z,(h.1.2.2.1),(Cu h.1),(Dw h.1),tR⟩) Z (fun _=>Ae (fun w h=>h.2) k))) (.nil (Ad 8 ((Ao Z Z (.cons Z (.cons Z .nil)) fb_163 (fmul_spec (sgH x msg) x)  (fun w h=>tR) Z (fun _=>(Ae (fun w h=>h.2) (Ad 9 ((mv Z Z (kj_del [10] (A3 [10,11,12] (fun _=>false) (by kernel_rfl) Z Z (.det _ (fun Q K R m k=>(ext Z Z Z k)) (.det _ (fun Q K R m k=>(ext Z Z Z k)) (.det _ (fun Q K R m k=>(Ak Z Z k)) (.nil (Ad 13 ((Ak Z Z (A6 ?_)))))))))))))))))))
  refine qn (Ab (Aa (oj (mv Z Z (oj (mv Z Z (oj (Ao Z Z (.cons Z (.cons Z .nil)) fb_164 (fadd_spec (sgK x msg) (sgM x msg))  (fun w h=>tR) Z (fun _=>(Ae (fun w h=>h.2) (oj (mv Z Z (oj (ext Z Z Z (oj (ext Z Z Z (oj (A2 (o':=1) Z Z Km Ai Z (oj (Cr Z Z Ai Z .head (.tail (.head Z)) Z (oj (Ak Z Z (on (qn (Ab ?_)))))))))))))))))))))))))
  exact Aa (oj (Eb Z Z In (.head _) Z (oj (mv Z Z (oj (C0 Z Z In Z Z .head (oj (Ak Z Z (on (qn (Af (As () Z (.cellW Z In (.head _) Z (.tmp Z .nil)) (by show Value.tuple #[av [S1 (iv (sgR x msg)),S1 (iv (sgZ x msg))],iv (f2E (sgK x msg) (sgM x msg))]=_; rw [signR,signS,signE,if_pos hk,if_pos hk,if_pos hk]) tR (Bl _) (fun w h=>tR) (.inl Z)))))))))))))
end Go.Chx
