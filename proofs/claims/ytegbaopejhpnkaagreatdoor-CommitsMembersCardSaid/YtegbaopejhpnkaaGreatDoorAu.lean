/- Part of the proof that the law CommitsMembers holds. -/
import Derived.Test.YtegbaopejhpnkaaGreatDoorAa
import Derived.Test.YtegbaopejhpnkaaGreatDoorAh
import Derived.Test.YtegbaopejhpnkaaGreatDoorAt
namespace Go.Chx
open Go Go.Proofs
set_option maxHeartbeats 1000000
set_option maxRecDepth 4000
theorem spec_none {P:Program} {f:FuncId} {args:List Value} {I:World→Prop} {p:Prop} {v:Value} {α:Type} {out:α→Out} (h:Ay P f args [] I (fun _:Unit=>⟨p,v,[],fun _=>True⟩)) (x:α) (hx:p→(out x).p) (hv:(out x).v=v) (hl:(out x).l=[none]) (hJ:∀ w,(out x).J w):Ay P f args [none] I out:=by
 intro X w hw
 refine (h X w ⟨hw.lowX,Ext.refl _ _,List.nodup_nil,by simp,by simp [keys],by simp [keys],hw.fr⟩).mono ?_
 rintro e w' ⟨_,hp,rfl,hw'⟩
 refine ⟨x,hx hp,by rw [hv],?_⟩
 rw [hl]
 exact ⟨hw'.lowX,hw'.ext,hw'.nodup,by simp,by simp [keys],by simp [keys],hw'.fr.mono fun w _=>hJ w⟩
abbrev Bxx.segs (x:Bxx):List Seg:=[S1 (iv x.n),S1 (iv x.lv),Fr 2 [iv x.u,.slice x.a x.b.length x.c]]
abbrev Wlc.segs (x:Wlc):List Seg:=[S1 (iv x.d),Fr 2 [iv x.u,.slice x.a x.b.length x.c]]
theorem sl_none {sz n cap:Nat} {cs:List Value} {w:World} (h:Sl sz n cs (.slice none n cap) w):n=0:=by
 rcases Nat.eq_zero_or_pos n with h0 | h0
 ·exact h0
 ·obtain ⟨b,hb⟩:=h.some h0; cases hb
def eqF {α β:Type} (q:α→β→Bool) (xs:List α) (ys:List β):Bool:=decide (xs.length=ys.length) && (xs.zip ys).all fun p=>q p.1 p.2
theorem eqF_len {α β:Type} {q:α→β→Bool} {xs:List α} {ys:List β} (h:xs.length≠ys.length):eqF q xs ys=false:=by unfold eqF; rw [decide_eq_false h]; rfl
theorem eqF_bad {α β:Type} {q:α→β→Bool} {xs:List α} {ys:List β} {i:Nat} {x:α} {y:β} (hx:xs[i]? = some x) (hy:ys[i]? = some y) (h:q x y=false):eqF q xs ys=false:=by
 unfold eqF
 rw [Bool.and_eq_false_iff]
 refine .inr ?_
 rw [List.all_eq_false]
 refine ⟨(x,y),List.mem_of_getElem? (i:=i) ?_,by simp [h]⟩
 rw [List.getElem?_zip_eq_some]; exact ⟨hx,hy⟩
theorem eqF_all {α β:Type} {q:α→β→Bool} {xs:List α} {ys:List β} (hl:xs.length=ys.length) (h:∀ (j:Nat) (x:α) (y:β),xs[j]? = some x→ys[j]? = some y→q x y=true):eqF q xs ys=true:=by
 unfold eqF
 rw [decide_eq_true hl,Bool.true_and,List.all_eq_true]
 intro p hp
 obtain ⟨j,hj⟩:=List.mem_iff_getElem?.1 hp
 rw [List.getElem?_zip_eq_some] at hj
 exact h j p.1 p.2 hj.1 hj.2
theorem del_chg (I0:World→Prop) (v:Value) (n:Nat) (xs:List Chg) (en:A9) (ho:Own 49 5 v n (xs.flatMap Chg.cells) en) (hn:xs.length=n) (hn2:n≤1000000) (g:FuncId) (fs cs:List Value) (q:Chg→Bool) (hg:Aq Tryz.prog g=true) (hq:∀ x∈xs,Im g fs cs (fun x=>[av x.segs]) q I0 x) :
  Ay Tryz.prog 120 [v,.func (.func g) fs.toArray cs.toArray] [en] (fun w=>I0 w∧True) (fun x:Value × A9=>⟨Own 49 5 x.1 (xs.filter fun x=>!q x).length ((xs.filter fun x=>!q x).flatMap Chg.cells) x.2,x.1,[x.2],fun _=>True⟩):=by
 generalize hxs:xs.flatMap Chg.cells=fs' at ho
 cases ho with
 | nil =>
  have h0:xs=[]:=List.eq_nil_of_length_eq_zero hn
  subst h0
  exact spec_none (deln_chg I0 [] Z g fs cs q hg hq) (.slice none 0 0,none) (fun _=>.nil) Z Z (fun _=>tR)
 | row hc hm hl hx =>
  exact delr_chg I0 _ n _ xs _ hn hn2 hc hm hl (by rw [hx,hxs]) g fs cs q hg hq
theorem del_mb (I0:World→Prop) (v:Value) (n:Nat) (xs:List Mb) (en:A9) (ho:Own 45 3 v n (xs.flatMap Mb.cells) en) (hn:xs.length=n) (hn2:n≤1000000) (g:FuncId) (fs cs:List Value) (q:Mb→Bool) (hg:Aq Tryz.prog g=true) (hq:∀ x∈xs,Im g fs cs (fun x=>[av x.segs]) q I0 x) :
  Ay Tryz.prog 58 [v,.func (.func g) fs.toArray cs.toArray] [en] (fun w=>I0 w∧True) (fun x:Value × A9=>⟨Own 45 3 x.1 (xs.filter fun x=>!q x).length ((xs.filter fun x=>!q x).flatMap Mb.cells) x.2,x.1,[x.2],fun _=>True⟩):=by
 generalize hxs:xs.flatMap Mb.cells=fs' at ho
 cases ho with
 | nil =>
  have h0:xs=[]:=List.eq_nil_of_length_eq_zero hn
  subst h0
  exact spec_none (deln_mb I0 [] Z g fs cs q hg hq) (.slice none 0 0,none) (fun _=>.nil) Z Z (fun _=>tR)
 | row hc hm hl hx =>
  exact delr_mb I0 _ n _ xs _ hn hn2 hc hm hl (by rw [hx,hxs]) g fs cs q hg hq
theorem clone_chg (a:Option Addr) (n cap:Nat) (xs:List Chg) (hn:xs.length=n) (hn2:n≤1000000):Ay Tryz.prog 81 [.slice a n cap] [] (fun w=>Sl 5 n (xs.flatMap Chg.cells) (.slice a n cap) w∧True) (fun x:Value × A9=>⟨Own 49 5 x.1 n (xs.flatMap Chg.cells) x.2,x.1,[x.2],fun _=>True⟩):=by
 refine Aj Tryz.func81 Z Z fun X w0=>(Cx (Ab (Aa (oj (Ak Z Z (on (qn (Ab (Ab (Aa (oj (mv Z Z (oj (eqns Z Z Z Tryz.underlying30 (on (qn ?_))))))))))))))))
 refine Ap Z (fun ht=>?_) (fun hf=>?_)
 ·have ha:a=none:=by simpa using ht
  subst ha
  refine Iv (fun w h=>sl_none (h.1)) ?_
  intro h0
  subst h0
  have hx0:xs=[]:=List.eq_nil_of_length_eq_zero hn
  subst hx0
  exact Ab (Aa (oj (Ak Z Z (on (qn (Af (qr (As (.slice none 0 0,none) Z (.tmp Z .nil) Z .nil (.refl _) (fun w h=>tR) (.inl Z)))))))))
 ·refine Ah (qn (Ab (Aa (oj (F7 Z Tryz.underlying30 Cp Fv .nil (by repeat (first | exact List.forall_mem_nil _ | refine List.forall_mem_cons.2 ⟨rfl,?_⟩)) Z (by decide) Z (fun r5=>?_))))))
  refine oj (mv Z Z (oj (Ku Z Z Z el_30 (by kernel_rfl) (Own.row (e:=49) (sz:=5) (g:=r5) (n:=0) (cap:=0) (cur:=[]) (xs:=[]) (Nat.le_refl _) (by decide) Z Z) (i:=0) Z (fun w ho h=>Sl.src (h.1)) (by omega) (by simp only [maxLen]; omega) (fun v7 e7 ho7=>?_))))
  try dsimp only [List.set]
  exact oj (Ak Z Z (on (qn (Af (As (v7,e7) Z (.tmp Z .nil) Z (by simpa using ho7) (.cons_cons _ (Bl _)) (fun w h=>tR) (.inl Z))))))
theorem clone_mb (a:Option Addr) (n cap:Nat) (xs:List Mb) (hn:xs.length=n) (hn2:n≤1000000):Ay Tryz.prog 59 [.slice a n cap] [] (fun w=>Sl 3 n (xs.flatMap Mb.cells) (.slice a n cap) w∧True) (fun x:Value × A9=>⟨Own 45 3 x.1 n (xs.flatMap Mb.cells) x.2,x.1,[x.2],fun _=>True⟩):=by
 refine Aj Tryz.func59 Z Z fun X w0=>(Cx (Ab (Aa (oj (Ak Z Z (on (qn (Ab (Ab (Aa (oj (mv Z Z (oj (eqns Z Z Z Tryz.underlying24 (on (qn ?_))))))))))))))))
 refine Ap Z (fun ht=>?_) (fun hf=>?_)
 ·have ha:a=none:=by simpa using ht
  subst ha
  refine Iv (fun w h=>sl_none (h.1)) ?_
  intro h0
  subst h0
  have hx0:xs=[]:=List.eq_nil_of_length_eq_zero hn
  subst hx0
  exact Ab (Aa (oj (Ak Z Z (on (qn (Af (qr (As (.slice none 0 0,none) Z (.tmp Z .nil) Z .nil (.refl _) (fun w h=>tR) (.inl Z)))))))))
 ·refine Ah (qn (Ab (Aa (oj (F7 Z Tryz.underlying24 Dk zok_45 .nil (by repeat (first | exact List.forall_mem_nil _ | refine List.forall_mem_cons.2 ⟨rfl,?_⟩)) Z (by decide) Z (fun r5=>?_))))))
  refine oj (mv Z Z (oj (Ku Z Z Z el_24 (by kernel_rfl) (Own.row (e:=45) (sz:=3) (g:=r5) (n:=0) (cap:=0) (cur:=[]) (xs:=[]) (Nat.le_refl _) (by decide) Z Z) (i:=0) Z (fun w ho h=>Sl.src (h.1)) (by omega) (by simp only [maxLen]; omega) (fun v7 e7 ho7=>?_))))
  try dsimp only [List.set]
  exact oj (Ak Z Z (on (qn (Af (As (v7,e7) Z (.tmp Z .nil) Z (by simpa using ho7) (.cons_cons _ (Bl _)) (fun w h=>tR) (.inl Z))))))
theorem equalf_mi (I0:World→Prop) (a b:Option Addr) (n cap m bcap:Nat) (xs:List Mb) (ys:List Int) (hn:xs.length=n) (hm:ys.length=m) (hn2:n≤1000000) (g:FuncId) (fs cs:List Value) (q:Mb→Int→Bool) (hg:Aq Tryz.prog g=true) (hq:∀ x∈xs,∀ y∈ys,Ay Tryz.prog g (fs++[av x.segs,iv y]++cs) [] I0 (fun _:Unit=>⟨True,.bool (q x y),[],fun _=>True⟩)):Ay Tryz.prog 117 [.slice a n cap,.slice b m bcap,.func (.func g) fs.toArray cs.toArray] [] (fun w=>Sl 3 n (xs.flatMap Mb.cells) (.slice a n cap) w∧Sl 1 m (ys.flatMap (fun x=>[iv x])) (.slice b m bcap) w∧I0 w∧True) (fun _:Unit=>⟨True,.bool (eqF q xs ys),[],fun _=>True⟩):=by
 refine Aj Tryz.func117 Z Z fun X w0=>(Ab (Aa (oj (Ak Z Z (on (qn (Ab (Ab (Aa (oj (mv Z Z (oj (Bn Z Z Tryz.underlying24 Z (oj (mv Z Z (oj (Bn Z Z Tryz.underlying31 Z (oj (G2 Z Z Z (on (qn ?_)))))))))))))))))))))
 refine C5 Z (fun ht=>?_) (fun hf=>?_)
 ·
  exact Ab (Aa (oj (Ak Z Z (on (qn (Af (qr (Ac (d:=6) (v:=.bool (eqF q xs ys)) Z (by rw [eqF_len (by omega)]) (As () Z (.tmp Z .nil) Z tR .slnil (fun w h=>tR) (.inl Z))))))))))
 ·refine Ah (qn (Ab (Ab (Aa (oj (mv Z Z (oj (Bn Z Z Tryz.underlying24 Z (oj (mv Z Z (on (qn (Ag (Aw (fun (sT:(Nat))=>(⟨sT≤n∧∀ j x y,j < sT→xs[j]? = some x→ys[j]? = some y→q x y=true,[(1,.slice b m bcap),(2,.func (.func g) fs.toArray cs.toArray),(15,.slice a n cap),(16,iv n),(17,iv (sT:Int))],[],fun w=>Sl 3 n (xs.flatMap Mb.cells) (.slice a n cap) w∧Sl 1 m (ys.flatMap (fun x=>[iv x])) (.slice b m bcap) w∧I0 w∧True,n-sT⟩:Hd)) (0) (⟨Nat.zero_le _,fun j _ _ h=>absurd h (Nat.not_lt_zero _)⟩) (⟨Z,Z,Z,Z,Z,tR⟩) .slnil (fun w h=>⟨(h.1),(h.2.1),(h.2.2.1),tR⟩) ?_))))))))))))))
  rintro i ⟨hi,hall⟩
  try dsimp only
  refine Ab (Aa (oj (Dd Z Z Z (on (qn (Ab ?_))))))
  refine A8 Z (fun ht=>?_) (fun hge=>?_)
  ·have hnm:n=m:=by omega
   obtain ⟨x,hx⟩:∃ x,xs[i]? = some x:=⟨_,List.getElem?_eq_getElem (by omega)⟩
   obtain ⟨y,hy⟩:∃ x,ys[i]? = some x:=⟨_,List.getElem?_eq_getElem (by omega)⟩
   refine Ah (qn (Ab (Ag (Ab (Aa (oj (mv Z Z (oj (Fc Z Z Z Tryz.underlying24 Dk (by omega) (fun w h=>Sl.some (h.1) (by omega)) (oj (D4 Z Z Dk Z (fun w h=>Cv (h.1) (by decide) (fun _=>Z) hx) (Ac (d:=21) (v:=av x.segs) Z Z (oj (C7 Z zok_45 (fun r8=>(oj (Ak Z Z (oj (C0 Z Z Dk Z Z .head (on (qn (Ab ?_))))))))))))))))))))))
   refine Aa (oj (mv Z Z (oj (mv Z Z (oj (Fc Z Z Z Tryz.underlying31 Ai (by omega) (fun w h=>Sl.some (h.2.1) (by omega)) (oj (A4 Z Z Ai (fun w h=>Sl.elem1 (h.2.1) (Dh hy)) (oj (Ak Z Z (on (qn (Ab (Aa (oj (mv Z Z (oj (Eb Z Z Dk (.head _) Z (oj (mv Z Z (oj (Ao Z Z (.cons Z (.cons Z .nil)) hg (hq x (List.mem_of_getElem? hx) y (List.mem_of_getElem? hy))  (fun w h=>(h.2.2.1)) Z (fun _=>(Ae (fun w h=>h.2) (oj (not Z Z ?_))))))))))))))))))))))))))
   refine on (qn ?_)
   refine Ap Z (fun ht=>?_) (fun hf=>?_)
   ·exact Ab (Aa (oj (Ak Z Z (on (qn (Af (br (qr (qr (br (qr (Ac (d:=6) (v:=.bool (eqF q xs ys)) Z (by rw [eqF_bad hx hy (by simpa using ht)]) (As () Z (.tmp Z .nil) Z tR (Bl _) (fun w h=>tR) (.inl Z))))))))))))))
   ·refine Ah (bn (qn (Aa (oj (add Z Z Z (by omega) (oj (mv Z Z (on (qn ?_)))))))))
    exact Ar (i+1) (by dsimp only; omega) (⟨by (try dsimp only); omega,fun j x1 y1 hj h1 h2=>by
      by_cases hji:j < i
      ·exact hall j x1 y1 hji h1 h2
      ·have:j=i:=by (try dsimp only at hj); omega
       subst this; rw [hx] at h1; rw [hy] at h2; cases h1; cases h2; simpa using hf⟩) (⟨rfl,rfl,rfl,rfl,rfl,trivial⟩) (Bl _) (fun w h=>⟨(h.1),(h.2.1),(h.2.2.1),trivial⟩)
  ·have h4:i=n:=by omega
   subst h4
   refine A1 (qe (qe (be (qn (Ab (Aa (oj (Ak Z Z (on (qn (Af (Ac (d:=6) (v:=.bool (eqF q xs ys)) Z (by rw [eqF_all (by omega) (fun j x y h1 h2=>hall j x y (by have:=(List.getElem?_eq_some_iff.1 h1).1; omega) h1 h2)]) ?_))))))))))))
   exact As () Z (.tmp Z .nil) Z tR .slnil (fun w h=>tR) (.inl Z)
theorem equalf_bb (I0:World→Prop) (a b:Option Addr) (n cap m bcap:Nat) (xs:List Bxx) (ys:List Bxx) (hn:xs.length=n) (hm:ys.length=m) (hn2:n≤1000000) (g:FuncId) (fs cs:List Value) (q:Bxx→Bxx→Bool) (hg:Aq Tryz.prog g=true) (hq:∀ x∈xs,∀ y∈ys,Ay Tryz.prog g (fs++[av x.segs,av y.segs]++cs) [] I0 (fun _:Unit=>⟨True,.bool (q x y),[],fun _=>True⟩)):Ay Tryz.prog 47 [.slice a n cap,.slice b m bcap,.func (.func g) fs.toArray cs.toArray] [] (fun w=>Sl 4 n (xs.flatMap Bxx.cells) (.slice a n cap) w∧Sl 4 m (ys.flatMap Bxx.cells) (.slice b m bcap) w∧I0 w∧True) (fun _:Unit=>⟨True,.bool (eqF q xs ys),[],fun _=>True⟩):=by
 refine Aj Tryz.func47 Z Z fun X w0=>(Ab (Aa (oj (Ak Z Z (on (qn (Ab (Ab (Aa (oj (mv Z Z (oj (Bn Z Z Tryz.underlying32 Z (oj (mv Z Z (oj (Bn Z Z Tryz.underlying32 Z (oj (G2 Z Z Z (on (qn ?_)))))))))))))))))))))
 refine C5 Z (fun ht=>?_) (fun hf=>?_)
 ·
  exact Ab (Aa (oj (Ak Z Z (on (qn (Af (qr (Ac (d:=6) (v:=.bool (eqF q xs ys)) Z (by rw [eqF_len (by omega)]) (As () Z (.tmp Z .nil) Z tR .slnil (fun w h=>tR) (.inl Z))))))))))
 ·refine Ah (qn (Ab (Ab (Aa (oj (mv Z Z (oj (Bn Z Z Tryz.underlying32 Z (oj (mv Z Z (on (qn (Ag (Aw (fun (sT:(Nat))=>(⟨sT≤n∧∀ j x y,j < sT→xs[j]? = some x→ys[j]? = some y→q x y=true,[(1,.slice b m bcap),(2,.func (.func g) fs.toArray cs.toArray),(15,.slice a n cap),(16,iv n),(17,iv (sT:Int))],[],fun w=>Sl 4 n (xs.flatMap Bxx.cells) (.slice a n cap) w∧Sl 4 m (ys.flatMap Bxx.cells) (.slice b m bcap) w∧I0 w∧True,n-sT⟩:Hd)) (0) (⟨Nat.zero_le _,fun j _ _ h=>absurd h (Nat.not_lt_zero _)⟩) (⟨Z,Z,Z,Z,Z,tR⟩) .slnil (fun w h=>⟨(h.1),(h.2.1),(h.2.2.1),tR⟩) ?_))))))))))))))
  rintro i ⟨hi,hall⟩
  try dsimp only
  refine Ab (Aa (oj (Dd Z Z Z (on (qn (Ab ?_))))))
  refine A8 Z (fun ht=>?_) (fun hge=>?_)
  ·have hnm:n=m:=by omega
   obtain ⟨x,hx⟩:∃ x,xs[i]? = some x:=⟨_,List.getElem?_eq_getElem (by omega)⟩
   obtain ⟨y,hy⟩:∃ x,ys[i]? = some x:=⟨_,List.getElem?_eq_getElem (by omega)⟩
   refine Ah (qn (Ab (Ag (Ab (Aa (oj (mv Z Z (oj (Fc Z Z Z Tryz.underlying32 E1 (by omega) (fun w h=>Sl.some (h.1) (by omega)) (oj (D4 Z Z E1 Z (fun w h=>Cv (h.1) (by decide) (fun _=>Z) hx) (Ac (d:=21) (v:=av x.segs) Z Z (oj (C7 Z I9 (fun r8=>(oj (Ak Z Z (oj (C0 Z Z E1 Z Z .head (on (qn (Ab ?_))))))))))))))))))))))
   refine Aa (oj (mv Z Z (oj (mv Z Z (oj (Fc Z Z Z Tryz.underlying32 E1 (by omega) (fun w h=>Sl.some (h.2.1) (by omega)) (oj (D4 Z Z E1 Z (fun w h=>Cv (h.2.1) (by decide) (fun _=>Z) hy) (Ac (d:=25) (v:=av y.segs) Z Z (oj (C7 Z I9 (fun r9=>(oj (C0 Z Z E1 Z Z .head (on (qn (Ab (Aa (oj (mv Z Z (oj (Eb Z Z E1 (.tail _ (.head _)) Z (oj (Eb Z Z E1 (.head _) Z (oj (Ao Z Z (.cons Z (.cons Z .nil)) hg (hq x (List.mem_of_getElem? hx) y (List.mem_of_getElem? hy))  (fun w h=>(h.2.2.1)) Z (fun _=>?_)))))))))))))))))))))))))))
   refine Ae (fun w h=>h.2) (oj (not Z Z (on (qn ?_))))
   refine Ap Z (fun ht=>?_) (fun hf=>?_)
   ·exact Ab (Aa (oj (Ak Z Z (on (qn (Af (br (qr (qr (br (qr (Ac (d:=6) (v:=.bool (eqF q xs ys)) Z (by rw [eqF_bad hx hy (by simpa using ht)]) (As () Z (.tmp Z .nil) Z tR (Bl _) (fun w h=>tR) (.inl Z))))))))))))))
   ·refine Ah (bn (qn (Aa (oj (add Z Z Z (by omega) (oj (mv Z Z (on (qn ?_)))))))))
    exact Ar (i+1) (by dsimp only; omega) (⟨by (try dsimp only); omega,fun j x1 y1 hj h1 h2=>by
      by_cases hji:j < i
      ·exact hall j x1 y1 hji h1 h2
      ·have:j=i:=by (try dsimp only at hj); omega
       subst this; rw [hx] at h1; rw [hy] at h2; cases h1; cases h2; simpa using hf⟩) (⟨rfl,rfl,rfl,rfl,rfl,trivial⟩) (Bl _) (fun w h=>⟨(h.1),(h.2.1),(h.2.2.1),trivial⟩)
  ·have h4:i=n:=by omega
   subst h4
   refine A1 (qe (qe (be (qn (Ab (Aa (oj (Ak Z Z (on (qn (Af (Ac (d:=6) (v:=.bool (eqF q xs ys)) Z (by rw [eqF_all (by omega) (fun j x y h1 h2=>hall j x y (by have:=(List.getElem?_eq_some_iff.1 h1).1; omega) h1 h2)]) ?_))))))))))))
   exact As () Z (.tmp Z .nil) Z tR .slnil (fun w h=>tR) (.inl Z)
theorem equalf_wc (I0:World→Prop) (a b:Option Addr) (n cap m bcap:Nat) (xs:List Wlc) (ys:List Chg) (hn:xs.length=n) (hm:ys.length=m) (hn2:n≤1000000) (g:FuncId) (fs cs:List Value) (q:Wlc→Chg→Bool) (hg:Aq Tryz.prog g=true) (hq:∀ x∈xs,∀ y∈ys,Ay Tryz.prog g (fs++[av x.segs,av y.segs]++cs) [] I0 (fun _:Unit=>⟨True,.bool (q x y),[],fun _=>True⟩)):Ay Tryz.prog 48 [.slice a n cap,.slice b m bcap,.func (.func g) fs.toArray cs.toArray] [] (fun w=>Sl 3 n (xs.flatMap Wlc.cells) (.slice a n cap) w∧Sl 5 m (ys.flatMap Chg.cells) (.slice b m bcap) w∧I0 w∧True) (fun _:Unit=>⟨True,.bool (eqF q xs ys),[],fun _=>True⟩):=by
 refine Aj Tryz.func48 Z Z fun X w0=>(Ab (Aa (oj (Ak Z Z (on (qn (Ab (Ab (Aa (oj (mv Z Z (oj (Bn Z Z Tryz.underlying33 Z (oj (mv Z Z (oj (Bn Z Z Tryz.underlying30 Z (oj (G2 Z Z Z (on (qn ?_)))))))))))))))))))))
 refine C5 Z (fun ht=>?_) (fun hf=>?_)
 ·
  exact Ab (Aa (oj (Ak Z Z (on (qn (Af (qr (Ac (d:=6) (v:=.bool (eqF q xs ys)) Z (by rw [eqF_len (by omega)]) (As () Z (.tmp Z .nil) Z tR .slnil (fun w h=>tR) (.inl Z))))))))))
 ·refine Ah (qn (Ab (Ab (Aa (oj (mv Z Z (oj (Bn Z Z Tryz.underlying33 Z (oj (mv Z Z (on (qn (Ag (Aw (fun (sT:(Nat))=>(⟨sT≤n∧∀ j x y,j < sT→xs[j]? = some x→ys[j]? = some y→q x y=true,[(1,.slice b m bcap),(2,.func (.func g) fs.toArray cs.toArray),(15,.slice a n cap),(16,iv n),(17,iv (sT:Int))],[],fun w=>Sl 3 n (xs.flatMap Wlc.cells) (.slice a n cap) w∧Sl 5 m (ys.flatMap Chg.cells) (.slice b m bcap) w∧I0 w∧True,n-sT⟩:Hd)) (0) (⟨Nat.zero_le _,fun j _ _ h=>absurd h (Nat.not_lt_zero _)⟩) (⟨Z,Z,Z,Z,Z,tR⟩) .slnil (fun w h=>⟨(h.1),(h.2.1),(h.2.2.1),tR⟩) ?_))))))))))))))
  rintro i ⟨hi,hall⟩
  try dsimp only
  refine Ab (Aa (oj (Dd Z Z Z (on (qn (Ab ?_))))))
  refine A8 Z (fun ht=>?_) (fun hge=>?_)
  ·have hnm:n=m:=by omega
   obtain ⟨x,hx⟩:∃ x,xs[i]? = some x:=⟨_,List.getElem?_eq_getElem (by omega)⟩
   obtain ⟨y,hy⟩:∃ x,ys[i]? = some x:=⟨_,List.getElem?_eq_getElem (by omega)⟩
   refine Ah (qn (Ab (Ag (Ab (Aa (oj (mv Z Z (oj (Fc Z Z Z Tryz.underlying33 Gk (by omega) (fun w h=>Sl.some (h.1) (by omega)) (oj (D4 Z Z Gk Z (fun w h=>Cv (h.1) (by decide) (fun _=>Z) hx) (Ac (d:=21) (v:=av x.segs) Z Z (oj (C7 Z zok_87 (fun r8=>(oj (Ak Z Z (oj (C0 Z Z Gk Z Z .head (on (qn (Ab ?_))))))))))))))))))))))
   refine Aa (oj (mv Z Z (oj (mv Z Z (oj (Fc Z Z Z Tryz.underlying30 Cp (by omega) (fun w h=>Sl.some (h.2.1) (by omega)) (oj (D4 Z Z Cp Z (fun w h=>Cv (h.2.1) (by decide) (fun _=>Z) hy) (Ac (d:=25) (v:=av y.segs) Z Z (oj (C7 Z Fv (fun r9=>(oj (C0 Z Z Cp Z Z .head (on (qn (Ab (Aa (oj (mv Z Z (oj (Eb Z Z Gk (.tail _ (.head _)) Z (oj (Eb Z Z Cp (.head _) Z (oj (Ao Z Z (.cons Z (.cons Z .nil)) hg (hq x (List.mem_of_getElem? hx) y (List.mem_of_getElem? hy))  (fun w h=>(h.2.2.1)) Z (fun _=>?_)))))))))))))))))))))))))))
   refine Ae (fun w h=>h.2) (oj (not Z Z (on (qn ?_))))
   refine Ap Z (fun ht=>?_) (fun hf=>?_)
   ·exact Ab (Aa (oj (Ak Z Z (on (qn (Af (br (qr (qr (br (qr (Ac (d:=6) (v:=.bool (eqF q xs ys)) Z (by rw [eqF_bad hx hy (by simpa using ht)]) (As () Z (.tmp Z .nil) Z tR (Bl _) (fun w h=>tR) (.inl Z))))))))))))))
   ·refine Ah (bn (qn (Aa (oj (add Z Z Z (by omega) (oj (mv Z Z (on (qn ?_)))))))))
    exact Ar (i+1) (by dsimp only; omega) (⟨by (try dsimp only); omega,fun j x1 y1 hj h1 h2=>by
      by_cases hji:j < i
      ·exact hall j x1 y1 hji h1 h2
      ·have:j=i:=by (try dsimp only at hj); omega
       subst this; rw [hx] at h1; rw [hy] at h2; cases h1; cases h2; simpa using hf⟩) (⟨rfl,rfl,rfl,rfl,rfl,trivial⟩) (Bl _) (fun w h=>⟨(h.1),(h.2.1),(h.2.2.1),trivial⟩)
  ·have h4:i=n:=by omega
   subst h4
   refine A1 (qe (qe (be (qn (Ab (Aa (oj (Ak Z Z (on (qn (Af (Ac (d:=6) (v:=.bool (eqF q xs ys)) Z (by rw [eqF_all (by omega) (fun j x y h1 h2=>hall j x y (by have:=(List.getElem?_eq_some_iff.1 h1).1; omega) h1 h2)]) ?_))))))))))))
   exact As () Z (.tmp Z .nil) Z tR .slnil (fun w h=>tR) (.inl Z)
def vkI (g:Gp) (author:Int) (xs:List Chg):Int:=if Gu g.ms author=true then (match g.ms[mIdx g.ms author]? with | some m=>m.v | none=>0) else (match xs with | x::_=>x.v | []=>0)
theorem mHas_get {ms:List Mb} {d:Int} (hs:MsS ms) (h:Gu ms d=true):∃ m,ms[mIdx ms d]? = some m∧m.d=d:=by
 unfold Gu at h
 obtain ⟨m,hm,hd⟩:=List.any_eq_true.1 h
 have hd:m.d=d:=by simpa using hd
 obtain ⟨i,hi⟩:=List.mem_iff_getElem?.1 hm
 have hil:=(List.getElem?_eq_some_iff.1 hi).1
 have:mIdx ms d=i:=mIdx_eq (by omega) (fun j q hj hq=>by
   obtain ⟨hj',ej⟩:=List.getElem?_eq_some_iff.1 hq
   obtain ⟨hi',ei⟩:=List.getElem?_eq_some_iff.1 hi
   have:=List.pairwise_iff_getElem.1 hs j i hj' hi' hj
   rw [ej,ei] at this; omega) (fun j q hj hq=>by
   have:=ms_high hs hi (d:=d) (by omega) hj hq
   exact this)
 exact ⟨m,by rw [this]; exact hi,hd⟩
theorem beqI (a b:Int):(a == b)=decide (a=b):=rfl
def wcB (author:Int) (x:Chg):Bool:=decide (x.k=2) || decide (x.d=author)
def wcF (author:Int) (l:List Chg):List Chg:=l.filter fun x=>!wcB author x
def wrB (g:Gp) (own:Bool) (author:Int) (x:Chg):Bool:=(Gu g.ms x.d == decide (x.k=1)) || (own && decide (x.d=author))
def psB (g:Gp) (author:Int) (xs:List Chg):Bool :=
 (Gu g.ms author == decide (g.epoch > 0)) && !(decide (g.epoch=0) && (match xs with | []=>true | x::_=>decide (x.d≠author))) && !(xs.any (wrB g (Gu g.ms author) author))
theorem welcome1_spec (x:Chg) (r:Nat) (author:Int):Ay Tryz.prog 121 [av x.segs,Bg r 0] [] (fun w=>Bc r [S1 (iv author)] 3 w∧True) (fun _:Unit=>⟨True,.bool (wcB author x),[],fun _=>True⟩):=by
 refine Aj Tryz.func121 Z Z fun X w0=>(Ab (Aa (oj (C6 Z Z (fun r2=>(oj (Ak Z Z (on (qn (Ab (Aa (oj (A2 (o':=0) Z Z F0 Ai Z (oj (Bh Z Z Ai (.head _) (Z) (oj (Eu Z Z Z (oj (mv Z Z ?_)))))))))))))))))))
 refine Kh (d:=7) Z (fun ht=>?_) (fun hf=>?_)
 ·exact oj (gf Z Z Z Z Z Z (oj (gf Z Z Z Z Z Z (oj (gf Z Z Z Z Z Z (oj (gf Z Z Z Z Z Z (oj (Cl Z Z Z (oj (Ak Z Z (on (qn (Af (Ac (d:=3) (v:=.bool (wcB author x)) Z (by unfold wcB; simp_all [beqI]) (As () Z (.tmp Z .nil) Z tR (Bl _) (fun w h=>tR) (.inl Z)))))))))))))))))
 ·exact oj (gt Z Z Z ((A2 (o':=1) Z Z Ds Ai Z (oj (gt Z Z Z ((Bh Z Z Ai (.head _) (Z) (oj (gt Z Z Z ((A4 Z Z Ai (fun w h=>Bc.at1 (h.1) Z) (oj (gt Z Z Z ((Eu Z Z Z (oj (Df Z Z Z (oj (Ak Z Z (on (qn (Af (Ac (d:=3) (v:=.bool (wcB author x)) Z (by unfold wcB; simp_all [beqI]) (As () Z (.tmp Z .nil) Z tR (Bl _) (fun w h=>tR) (.inl Z)))))))))))))))))))))))))
theorem welcome_spec (author:Int) (a:Option Addr) (n cap:Nat) (xs:List Chg) (hn:xs.length=n) (hn2:n≤1000000):Ay Tryz.prog 49 [iv author,.slice a n cap] [] (fun w=>Sl 5 n (xs.flatMap Chg.cells) (.slice a n cap) w∧True) (fun x:Value × A9 × List Chg=>⟨x.2.2.Perm (wcF author xs)∧x.2.2.Pairwise (fun a b=>a.d≤b.d)∧Own 49 5 x.1 x.2.2.length (x.2.2.flatMap Chg.cells) x.2.1,x.1,[x.2.1],fun _=>True⟩):=by
 refine Aj Tryz.func49 Z Z fun X w0=>(Ab (Aa (oj (box1 Z Z Z (fun r2=>(Al (Am 0 _ _ Z) ?_))))))
 try dsimp only [List.eraseIdx]
 refine oj (Ak Z Z (on (qn (Ab (Aa (oj (mv Z Z (oj (call Z Z (.cons Z .nil) fb_81 (clone_chg a n cap xs hn hn2)  (fun w h=>⟨(h.2.1),tR⟩) ?_)))))))))
 rintro ⟨v7,e7⟩ ho7
 try dsimp only at ho7
 try dsimp only
 refine oj (mkF Z .nil (.cons Z .nil) (oj (Ce Z Z (.cons Z (.cons Z .nil)) fb_120 (del_chg (Bc r2 [S1 (iv author)] 3) v7 n xs e7 ho7 hn hn2 121 [] [Bg r2 0] (wcB author) fb_121 (fun x _=>G5 (welcome1_spec x r2 author) (fun w h=>⟨h,tR⟩))) (fun _=>.head) (fun _=>Z) (fun w h=>⟨(h.2.1.1),tR⟩) ?_)))
 rintro ⟨v9,e9⟩ ho9
 try dsimp only at ho9
 try dsimp only
 refine oj (Ak Z Z (on (qn (Ab (Aa (oj (mv Z Z (oj (Ce Z Z (.cons Z (.cons Z .nil)) fb_122 (sort_chg v9 _ (wcF author xs) e9 ho9 Z (Nat.le_trans (List.length_filter_le _ _) (hn ▸ hn2))) (fun _=>.head) (fun _=>Z) (fun w h=>tR) ?_)))))))))
 rintro ⟨e11,ys⟩ ⟨hp,hs,ho⟩
 try dsimp only at hp hs ho
 try dsimp only
 exact on (qn (Ab (Aa (oj (mv Z Z (oj (Ak Z Z (on (qn (Af (As (v9,e11,ys) Z (.tmp Z .nil) Z ⟨hp,hs,by (try dsimp only); rw [hp.length_eq]; exact ho⟩ (.refl _) (fun w h=>tR) (.inl Z))))))))))))
theorem cverify_spec (g:Gp) (author:Int) (a:Option Addr) (cap:Nat) (xs:List Chg) (hs:MsS g.ms) (hl:g.ms.length≤1000000) (hx0:Gu g.ms author=false→xs≠[]):Ay Tryz.prog 51 [av g.segs,iv author,.slice a xs.length cap] [] (fun w=>GF1 g w∧Sl 5 xs.length (xs.flatMap Chg.cells) (.slice a xs.length cap) w∧True) (fun _:Unit=>⟨True,iv (vkI g author xs),[],fun _=>True⟩):=by
 refine Aj Tryz.func51 Z Z fun X w0=>(Ab (Aa (oj (C6 Z Z (fun r3=>(Al (Am 0 _ _ Z) ?_))))))
 try dsimp only [List.eraseIdx]
 refine oj (Ak Z Z (on (qn (Ab (Ab (Aa (oj (Bx Z Z B4 (fun w h=>h.1.1) Z (oj (mv Z Z (oj (Ao Z Z (.cons Z (.cons Z .nil)) fb_128 (member_spec g author hs hl)  (fun w h=>⟨(h.2.1),tR⟩) Z (fun _=>(Ae (fun w h=>h.2) (oj (mv Z Z (oj (ext Z Z Z (oj (ext Z Z Z (oj (Ak Z Z (oj (Ak Z Z (on ?_)))))))))))))))))))))))))
 refine qn (Ab (Aa (oj (mv Z Z (on (qn ?_))))))
 refine Ap Z (fun ht=>?_) (fun hf=>?_)
 ·obtain ⟨q,hq,hqd⟩:=mHas_get hs ht
  refine Ab (Aa (oj (A2 (o':=34) Z Z Dg Dl Z (oj (A4 Z Z Dl (fun w h=>Bc.at1 h.1.1 Z) (oj (mv Z Z (oj (Fc Z Z Z Tryz.underlying24 Dk (by have:=(List.getElem?_eq_some_iff.1 hq).1; omega) (fun w h=>Sl.some (h.2.1) (by have:=(List.getElem?_eq_some_iff.1 hq).1; omega)) ?_)))))))))
  refine oj (fadO Z Z fld_45_2 Ai (fun w h=>by obtain ⟨b,hb⟩:=Sl.some (h.2.1) (by have:=(List.getElem?_eq_some_iff.1 hq).1; omega); exact ⟨_,by rw [hb]; rfl⟩) ?_)
  exact oj (A4 Z Z Ai (fun w h=>(Cv (h.2.1) (by decide) (fun _=>Z) hq).fld Z) (oj (Ak Z Z (on (qn (Af (qr (Ac (d:=6) (v:=iv (vkI g author xs)) Z (by unfold vkI; rw [if_pos ht,hq]) (As () Z (.tmp Z .nil) Z tR .slnil (fun w h=>tR) (.inl Z))))))))))
 ·obtain ⟨x0,xs0,rfl⟩:=List.exists_cons_of_ne_nil (hx0 hf)
  exact Ah (qn (Ab (Aa (oj (mv Z Z (oj (Fc Z Z Z Tryz.underlying30 Cp (by simp only [List.length_cons]; omega) (fun w h=>Sl.some (h.2.2.1) (by simp)) (oj (fadO Z Z H6 Ai (fun w h=>by obtain ⟨b,hb⟩:=Sl.some (h.2.2.1) (by simp); exact ⟨_,by rw [hb]; rfl⟩) (oj (A4 Z Z Ai (fun w h=>(Cv (h.2.2.1) (by decide) (fun _=>Z) (i:=0) (x:=x0) Z).fld Z) (oj (Ak Z Z (on (qn (Af (Ac (d:=6) (v:=iv (vkI g author (x0::xs0))) Z (by unfold vkI; rw [hf]; rfl) (As () Z (.tmp Z .nil) Z tR .slnil (fun w h=>tR) (.inl Z)))))))))))))))))))
theorem possible1_spec (g:Gp) (hs:MsS g.ms) (hl:g.ms.length≤1000000) (own:Bool) (author:Int) (r1 r2 r3:Nat) (x:Chg):Ay Tryz.prog 179 [av x.segs,Bg r1 0,Bg r2 0,Bg r3 0] [] (fun w=>GF1 g w∧Bc r1 g.segs 29 w∧Bc r2 [S1 (.bool own)] 4 w∧Bc r3 [S1 (iv author)] 3 w∧True) (fun _:Unit=>⟨True,.bool (wrB g own author x),[],fun _=>True⟩):=by
 refine Aj Tryz.func179 Z Z fun X w0=>(Ab (Aa (oj (C6 Z Z (fun r4=>(oj (Ak Z Z (on (qn (Ab (Aa (oj (Bx Z Z B4 (fun w h=>(h.2.1)) Z (oj (A2 (o':=1) Z Z Ds Ai Z (oj (Bh Z Z Ai (.head _) (Z) (oj (Ao Z Z (.cons Z (.cons Z .nil)) fb_128 (member_spec g x.d hs hl)  (fun w h=>⟨(h.1),tR⟩) Z (fun _=>(Ae (fun w h=>h.2) (oj (mv Z Z (oj (ext Z Z Z ?_)))))))))))))))))))))))))
 refine oj (ext Z Z Z (oj (Ak Z Z (oj (Ak Z Z (on (qn (Ab (Aa (oj (mv Z Z (oj (A2 (o':=0) Z Z F0 Ai Z (oj (Bh Z Z Ai (.head _) (Z) (oj (Eu Z Z Z (oj (eqb Z Z Z Tryz.underlying4 (oj (mv Z Z ?_)))))))))))))))))))))
 refine Dn (d:=20) Z (fun h1=>?_) (fun h1=>?_)
 ·exact oj (gf Z Z Z Z Z Z (oj (gf Z Z Z Z Z Z (oj (Gl Z Z Z Z Z (oj (Gl Z Z Z Z Z (oj (Gl Z Z Z Z Z (oj (Gl Z Z Z Z Z (oj (gf Z Z Z Z Z Z (oj (Cl Z Z Z (oj (Ak Z Z (on (qn (Af (Ac (d:=5) (v:=.bool (wrB g own author x)) Z (by unfold wrB; simp_all [beqI]) (As () Z (.tmp Z .nil) Z tR (Bl _) (fun w h=>tR) (.inl Z)))))))))))))))))))))))
 ·refine oj (gt Z Z Z ((A4 Z Z Is (fun w h=>Bc.at1 (h.2.2.1) Z) (oj (gt Z Z Z ((mv Z Z ?_)))))))
  refine Dn (d:=22) Z (fun h2=>?_) (fun h2=>?_)
  ·refine oj (gt Z Z Z ((A2 (o':=1) Z Z Ds Ai Z (oj (gt Z Z Z ((Bh Z Z Ai (.head _) (Z) (oj (gt Z Z Z ((A4 Z Z Ai (fun w h=>Bc.at1 (Cu h) Z) (oj (gt Z Z Z ((Eu Z Z Z (oj (gt Z Z Z ((Cl Z Z Z (oj (Df Z Z Z (oj (Ak Z Z (on (qn (Af (Ac (d:=5) (v:=.bool (wrB g own author x)) Z (by unfold wrB; simp_all [beqI]) ?_)))))))))))))))))))))))))))
   exact As () Z (.tmp Z .nil) Z tR (Bl _) (fun w h=>tR) (.inl Z)
  ·exact oj (gf Z Z Z Z Z Z (oj (gf Z Z Z Z Z Z (oj (gf Z Z Z Z Z Z (oj (gf Z Z Z Z Z Z (oj (gt Z Z Z ((Df Z Z Z (oj (Df Z Z Z (oj (Ak Z Z (on (qn (Af (Ac (d:=5) (v:=.bool (wrB g own author x)) Z (by unfold wrB; simp_all [beqI]) (As () Z (.tmp Z .nil) Z tR (Bl _) (fun w h=>tR) (.inl Z)))))))))))))))))))))
theorem possible_spec (g:Gp) (hs:MsS g.ms) (hl:g.ms.length≤1000000) (author:Int) (a:Option Addr) (cap:Nat) (xs:List Chg) (hxl:xs.length≤1000000):Ay Tryz.prog 108 [av g.segs,iv author,.slice a xs.length cap] [] (fun w=>GF1 g w∧Sl 5 xs.length (xs.flatMap Chg.cells) (.slice a xs.length cap) w∧True) (fun _:Unit=>⟨True,.bool (psB g author xs),[],fun _=>True⟩):=by
 refine Aj Tryz.func108 Z Z fun X w0=>(Ab (Aa (oj (C6 Z Z (fun r3=>(Al (Am 0 _ _ Z) ?_))))))
 try dsimp only [List.eraseIdx]
 refine oj (box1 Z Z Z (fun r4=>(Al (Am 0 _ _ Z) ?_)))
 try dsimp only [List.eraseIdx]
 refine oj (Ak Z Z (on (qn (Ab (Aa (oj (Bx Z Z B4 (fun w h=>h.2.1.1) Z (oj (A4 Z Z Ai (fun w h=>Bc.at1 h.1.1 Z) (oj (Ao Z Z (.cons Z (.cons Z .nil)) fb_128 (member_spec g author hs hl)  (fun w h=>⟨(h.2.2.1),tR⟩) Z (fun _=>(Ae (fun w h=>h.2) (oj (mv Z Z (oj (ext Z Z Z (oj (ext Z Z Z (oj (C7 Z zok_4 (fun r8=>(oj (Ak Z Z (oj (Cr Z Z Is Z .head (.head Z) Z (on ?_)))))))))))))))))))))))))))
 refine qn (Ab (Ab (Al (Am 0 _ _ Z) ?_)))
 try dsimp only [List.eraseIdx]
 refine A5 mo (A3 [0,1,2,3] (fun _=>false) (by kernel_rfl) Z Z (.det _ (fun Q K R m k=>(A4 Z Z Is (fun w h=>Bc.at1 h.1.1.1 Z) k)) (.det _ (fun Q K R m k=>(A2 (o':=1) Z Z F3 Ai Z k)) (.det _ (fun Q K R m k=>(A4 Z Z Ai (fun w h=>Bc.at1 h.1.2.2.1.1 Z) k)) (.det _ (fun Q K R m k=>(gti Z Z Z k)) (.nil (Ad 4 ((neb Z Z Z Tryz.underlying4 (Ad 5 ((mv Z Z ?_))))))))))))
 refine Dn (d:=21) Z (fun h1=>?_) (fun h1=>?_)
 ·refine Ad 6 ((gf Z Z Z Z Z Z (Ad 7 ((gf Z Z Z Z Z Z (Ad 8 ((gf Z Z Z Z Z Z (Ad 9 ((gf Z Z Z Z Z Z (Ad 10 ((Gl Z Z Z Z Z (Ad 11 ((Gl Z Z Z Z Z (Ad 12 ((Gl Z Z Z Z Z (Ad 13 ((Gl Z Z Z Z Z ?_)))))))))))))))))))))))
  refine A3 [14,15,16,17,18] (fun _=>false) (by kernel_rfl) Z Z (.det _ (fun Q K R m k=>(Gl Z Z Z Z Z k)) (.det _ (fun Q K R m k=>(Gl Z Z Z Z Z k)) (.det _ (fun Q K R m k=>(Gl Z Z Z Z Z k)) (.det _ (fun Q K R m k=>(Gl Z Z Z Z Z k)) (.det _ (fun Q K R m k=>(Gl Z Z Z Z Z k)) (.nil (Ad 19 ((Gl Z Z Z Z Z (Ad 20 ((Gl Z Z Z Z Z (Ad 21 ((gf Z Z Z Z Z Z (Ad 22 ((Cl Z Z Z (A6 ?_)))))))))))))))))))
  exact qn (Ap Z (fun _=>(Ab (Aa (oj (Ak Z Z (on (qn (Af (qr (Ac (d:=6) (v:=.bool (psB g author xs)) Z (by unfold psB; simp_all) (As () Z (.tmp Z .nil) Z tR .slnil (fun w h=>tR) (.inl Z)))))))))))) (fun h=>by cases h))
 ·refine Ad 6 ((gt Z Z Z (A2 (o':=1) Z Z F3 Ai Z (Ad 7 ((gt Z Z Z (A4 Z Z Ai (fun w h=>Bc.at1 h.2.2.1.1 Z) (Ad 8 ((gt Z Z Z (Eu Z Z Z (Ad 9 ((gt Z Z Z (mv Z Z ?_)))))))))))))))
  refine Kh (d:=25) Z (fun h2=>?_) (fun h2=>?_)
  ·refine Ad 10 ((gt Z Z Z (mv Z Z (Ad 11 ((gt Z Z Z (Bn Z Z Tryz.underlying30 Z (Ad 12 ((gt Z Z Z (Eu Z Z Z (Ad 13 ((gt Z Z Z (mv Z Z ?_)))))))))))))))
   refine Kh (d:=29) Z (fun h3=>?_) (fun h3=>?_)
   ·refine A3 [14,15,16,17,18] (fun _=>false) (by kernel_rfl) Z Z (.det _ (fun Q K R m k=>(gf Z Z Z Z Z Z k)) (.det _ (fun Q K R m k=>(gf Z Z Z Z Z Z k)) (.det _ (fun Q K R m k=>(gf Z Z Z Z Z Z k)) (.det _ (fun Q K R m k=>(gf Z Z Z Z Z Z k)) (.det _ (fun Q K R m k=>(gf Z Z Z Z Z Z k)) (.nil (Ad 19 ((gf Z Z Z Z Z Z (Ad 20 ((gt Z Z Z (Cl Z Z Z (Ad 21 ((gt Z Z Z (Cl Z Z Z (Ad 22 ((Df Z Z Z (A6 ?_)))))))))))))))))))))
    exact qn (Ap Z (fun _=>(Ab (Aa (oj (Ak Z Z (on (qn (Af (qr (Ac (d:=6) (v:=.bool (psB g author xs)) Z (by cases xs with | nil=>unfold psB; simp_all | cons y ys=>simp at h3; omega) (As () Z (.tmp Z .nil) Z tR .slnil (fun w h=>tR) (.inl Z)))))))))))) (fun h=>by cases h))
   ·obtain ⟨x0,xs0,rfl⟩:∃ x0 xs0,xs=x0::xs0:=by
     cases xs with
     | nil=>exact absurd rfl h3
     | cons x0 xs0=>exact ⟨x0,xs0,rfl⟩
    refine A3 [14,15,16,17,18] (fun _=>false) (by kernel_rfl) Z Z (.det _ (fun Q K R m k=>(gt Z Z Z (mv Z Z k))) (.det _ (fun Q K R m k=>(gt Z Z Z (Fc Z Z Z Tryz.underlying30 Cp (by simp only [List.length_cons]; omega) (fun w h=>Sl.some (Dw h.1) (by simp)) k))) (.det _ (fun Q K R m k=>(gt Z Z Z (fadO Z Z Ds Ai (fun w h=>by obtain ⟨b,hb⟩:=Sl.some (Dw h.1) (by simp); exact ⟨_,by rw [hb]; rfl⟩) k))) (.det _ (fun Q K R m k=>(gt Z Z Z (A4 Z Z Ai (fun w h=>(Cv (Dw h.1) (by decide) (fun _=>Z) (i:=0) (x:=x0) Z).fld Z) k))) (.det _ (fun Q K R m k=>(gt Z Z Z (A4 Z Z Ai (fun w h=>Bc.at1 h.1.2.1.1 Z) k))) (.nil (Ad 19 ((gt Z Z Z (G2 Z Z Z (Ad 20 ((gt Z Z Z (Df Z Z Z (Ad 21 ((gt Z Z Z (Cl Z Z Z (Ad 22 ((Df Z Z Z (A6 ?_))))))))))))))))))))))
    refine qn ?_
    refine C5 Z (fun h4=>?_) (fun h4=>?_)
    ·exact Ab (Aa (oj (Ak Z Z (on (qn (Af (qr (Ac (d:=6) (v:=.bool (psB g author (x0::xs0))) Z (by unfold psB; simp_all) (As () Z (.tmp Z .nil) Z tR .slnil (fun w h=>tR) (.inl Z))))))))))
    ·refine Ah (qn (Ab (Aa (oj (mkF Z .nil (.cons Z (.cons Z (.cons Z .nil))) (oj (Ak Z Z (on (qn (Ab (Aa (oj (mv Z Z (oj (mv Z Z (oj (Ao Z Z (.cons Z (.cons Z .nil)) fb_56 (Ka (fun w=>GF1 g w∧Bc r3 g.segs 29 w∧Bc r8 [S1 (.bool (Gu g.ms author))] 4 w∧Bc r4 [S1 (iv author)] 3 w∧True) a _ cap _ Z (by omega) 179 [] [Bg r3 0,Bg r8 0,Bg r4 0] (wrB g (Gu g.ms author) author) fb_179 (fun x _=>possible1_spec g hs hl _ author r3 r8 r4 x))  (fun w h=>⟨(Dw h),⟨(Cu h),(h.2.2.1.1),(h.1.1),(h.2.1.1),tR⟩,tR⟩) Z (fun _=>(Ae (fun w h=>h.2) (oj (not Z Z (oj (Ak Z Z ?_)))))))))))))))))))))))
     exact on (qn (Af (Ac (d:=6) (v:=.bool (psB g author (x0::xs0))) Z (by unfold psB; simp_all) (As () Z (.tmp Z .nil) Z tR .slnil (fun w h=>tR) (.inl Z)))))
  ·refine Ad 10 ((gf Z Z Z Z Z Z (Ad 11 ((gf Z Z Z Z Z Z (Ad 12 ((gf Z Z Z Z Z Z (Ad 13 ((gf Z Z Z Z Z Z (A3 [14,15,16,17,18] (fun _=>false) (by kernel_rfl) Z Z (.det _ (fun Q K R m k=>(Gl Z Z Z Z Z k)) (.det _ (fun Q K R m k=>(Gl Z Z Z Z Z k)) (.det _ (fun Q K R m k=>(Gl Z Z Z Z Z k)) (.det _ (fun Q K R m k=>(Gl Z Z Z Z Z k)) (.det _ (fun Q K R m k=>(Gl Z Z Z Z Z k)) (.nil (Ad 19 ?_)))))))))))))))))))
   refine (Gl Z Z Z Z Z (Ad 20 ((gf Z Z Z Z Z Z (Ad 21 ((gt Z Z Z (Df Z Z Z (Ad 22 ((Df Z Z Z (A6 (qn (Ap Z (fun h=>by cases h) (fun _=>(Ah (qn (Ab (Aa (oj (mkF Z .nil (.cons Z (.cons Z (.cons Z .nil))) (oj (Ak Z Z ?_)))))))))))))))))))))))
   exact on (qn (Ab (Aa (oj (mv Z Z (oj (mv Z Z (oj (Ao Z Z (.cons Z (.cons Z .nil)) fb_56 (Ka (fun w=>GF1 g w∧Bc r3 g.segs 29 w∧Bc r8 [S1 (.bool (Gu g.ms author))] 4 w∧Bc r4 [S1 (iv author)] 3 w∧True) a _ cap _ Z (by omega) 179 [] [Bg r3 0,Bg r8 0,Bg r4 0] (wrB g (Gu g.ms author) author) fb_179 (fun x _=>possible1_spec g hs hl _ author r3 r8 r4 x))  (fun w h=>⟨(Dw h),⟨(Cu h),(h.2.2.1.1),(h.1.1),(h.2.1.1),tR⟩,tR⟩) Z (fun _=>(Ae (fun w h=>h.2) (oj (not Z Z (oj (Ak Z Z (on (qn (Af (Ac (d:=6) (v:=.bool (psB g author xs)) Z (by unfold psB; simp_all) (As () Z (.tmp Z .nil) Z tR .slnil (fun w h=>tR) (.inl Z)))))))))))))))))))))
end Go.Chx
