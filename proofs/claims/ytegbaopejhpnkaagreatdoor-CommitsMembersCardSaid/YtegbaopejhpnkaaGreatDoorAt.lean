/- Part of the proof that the law CommitsMembers holds. -/
import Derived.Shelf.SlSortCmp.WholeK
import Derived.Shelf.SlSortCmp.NoneTotal
import Derived.Shelf.SlicesG.Cmp
import Derived.Ground.SlsfProg
import Derived.Ground.SlgcProg
import Derived.Ground.NamesProg
import Derived.WalkKit
import Derived.Test.YtegbaopejhpnkaaGreatDoorAa
import Derived.Test.YtegbaopejhpnkaaGreatDoorAh
import Derived.Test.YtegbaopejhpnkaaGreatDoorAk
import Derived.Test.YtegbaopejhpnkaaGreatDoorAq
import Derived.Test.YtegbaopejhpnkaaGreatDoorAs
namespace Go.Chx
open Go Go.Proofs
set_option maxHeartbeats 1000000
set_option maxRecDepth 4000
abbrev Chg.segs (x:Chg):List Seg:=[S1 (iv x.k),S1 (iv x.d),S1 (iv x.p),S1 (iv x.v),S1 (iv x.c)]
theorem row_slL {r n cap sz:Nat} {te:TypeId} {α:Type} {c:α→List Value} {xs:List α} {cur:List Value} {w:World} (h:w.heap[r]? = some (.cells cur.toArray te (0,0))) (hl:cur.length=cap*sz) (hc:n≤cap) (hx:cur.take (n*sz)=xs.flatMap c) (hn:xs.length=n) (h1:(xs.flatMap c).all (·.oneCell')=true:=by exact Do (fun _=>rfl) _):Sl sz n (xs.flatMap c) (.slice (some ⟨r,0,none⟩) n cap) w:=by
 refine ⟨_,_,Z,hc,?_,h1,.inr ⟨_,Z,fun j v hv=>?_⟩⟩
 ·rw [← hx,List.length_take,hl]; exact Nat.min_eq_left (Nat.mul_le_mul_right _ hc)
 ·rw [Fk]
  refine E0 h ?_
  rw [← hx,List.getElem?_take] at hv
  split at hv
  ·rw [Nat.zero_add]; exact hv
  ·cases hv
theorem firstIdx_neg {α:Type} {q:α→Bool} {xs:List α} (h:Dp q xs = -1):xs.any q=false:=by
 rw [← Ix,h]; rfl
theorem filter_none {α:Type} {q:α→Bool} {xs:List α} (h:xs.any q=false):(xs.filter fun x=>!q x)=xs:=by
 rw [List.filter_eq_self]
 intro x hx
 cases e:q x with
 | false=>rfl
 | true=>rw [List.any_eq_true.2 ⟨x,hx,e⟩] at h; cases h
theorem firstIdx_pos {α:Type} {q:α→Bool} {xs:List α} (h:Dp q xs≠-1):∃ i:Nat,Dp q xs=(i:Int)∧i < xs.length∧(xs.take i).any q=false∧∀ x,xs[i]? = some x→q x=true:=by
 unfold Dp at *
 cases e:xs.findIdx? q with
 | none=>rw [e] at h; exact absurd rfl h
 | some i =>
  obtain ⟨hi,h1,h2⟩:=List.findIdx?_eq_some_iff_getElem.1 e
  refine ⟨i,Z,hi,?_,fun x hx=>?_⟩
  ·rw [List.any_eq_false]
   intro x hx
   obtain ⟨j,hj,rfl⟩:=List.mem_take_iff_getElem.1 hx
   exact h2 j (by omega)
  ·obtain ⟨_,ex⟩:=List.getElem?_eq_some_iff.1 hx
   rw [← ex]; exact h1
structure DelInv {α:Type} (sz:Nat) (c:α→List Value) (q:α→Bool) (xs:List α) (n cap i j:Nat) (cr:List Value):Prop where
 ij:i≤j
 jn:j≤n
 nc:n≤cap
 nl:xs.length=n
 len:cr.length=cap*sz
 fl:((xs.take j).filter fun x=>!q x).length=i
 pre:cr.take (i*sz)=((xs.take j).filter fun x=>!q x).flatMap c
 suf:(cr.drop (j*sz)).take ((n-j)*sz)=(xs.drop j).flatMap c
theorem DelInv.step {α:Type} {sz:Nat} {c:α→List Value} {xs:List α} {n j:Nat} {cr:List Value} {x:α} (h:(cr.drop (j*sz)).take ((n-j)*sz)=(xs.drop j).flatMap c) (hx:xs[j]? = some x) (hn:xs.length=n) (hsz:∀ x,(c x).length=sz) :
  (cr.drop (j*sz)).take sz=c x∧(cr.drop ((j+1)*sz)).take ((n-(j+1))*sz)=(xs.drop (j+1)).flatMap c:=by
 obtain ⟨hj,ex⟩:=List.getElem?_eq_some_iff.1 hx
 have e1:xs.drop j=x::xs.drop (j+1):=by rw [List.drop_eq_getElem_cons hj,ex]
 have e2:(n-j)*sz=sz+(n-(j+1))*sz:=by rw [show n-j=(n-(j+1))+1 from by omega,Nat.succ_mul,Nat.add_comm]
 rw [e1,List.flatMap_cons,e2] at h
 constructor
 ·have:=congrArg (List.take sz) h
  rw [List.take_take,Nat.min_eq_left (by omega),← hsz x,List.take_left] at this
  rw [hsz x] at this
  exact this
 ·have:=congrArg (List.drop sz) h
  rw [List.drop_take,List.drop_drop,Nat.add_sub_cancel_left] at this
  rw [Nat.succ_mul]
  rw [this]
  have h3:=List.drop_left (l₁:=c x) (l₂:=(xs.drop (j+1)).flatMap c)
  rwa [hsz x] at h3
theorem DelInv.at {α:Type} {sz:Nat} {c:α→List Value} {q:α→Bool} {xs:List α} {n cap i j:Nat} {cr:List Value} {x:α} (h:DelInv sz c q xs n cap i j cr) (hx:xs[j]? = some x) (hsz:∀ x,(c x).length=sz):(cr.drop (j*sz)).take sz=c x:=(DelInv.step h.suf hx h.nl hsz).1
theorem DelInv.init {α:Type} {sz:Nat} {c:α→List Value} {q:α→Bool} {xs:List α} {n cap i0:Nat} {cur:List Value} (hn:xs.length=n) (hl:cur.length=cap*sz) (hc:n≤cap) (hx:cur.take (n*sz)=xs.flatMap c) (hi:i0 < xs.length) (ha:(xs.take i0).any q=false) (hq:∀ x,xs[i0]? = some x→q x=true) (hsz:∀ x,(c x).length=sz):DelInv sz c q xs n cap i0 (i0+1) cur:=by
 obtain ⟨x,hx0⟩:∃ x,xs[i0]? = some x:=⟨_,List.getElem?_eq_getElem hi⟩
 have hf:((xs.take (i0+1)).filter fun x=>!q x)=xs.take i0:=by
  rw [A7 hx0,List.filter_append,filter_none ha]; simp [hq x hx0]
 have hcut:∀ k,k≤n→cur.take (k*sz)=(xs.take k).flatMap c:=fun k hk=>by
  have h1:=congrArg (List.take (k*sz)) hx
  rw [List.take_take,Nat.min_eq_left (Nat.mul_le_mul_right _ hk),fm_take hsz] at h1
  exact h1
 refine ⟨by omega,by omega,hc,hn,hl,by rw [hf,List.length_take]; omega,by rw [hf]; exact hcut i0 (by omega),?_⟩
 have h1:=congrArg (List.drop ((i0+1)*sz)) hx
 rw [List.drop_take,← Nat.sub_mul] at h1
 rw [h1]
 have e:xs.flatMap c=(xs.take (i0+1)).flatMap c++(xs.drop (i0+1)).flatMap c:=by rw [← fm_append,List.take_append_drop]
 rw [e]
 have hl2:((xs.take (i0+1)).flatMap c).length=(i0+1)*sz:=by rw [Il hsz,List.length_take]; congr 1; omega
 rw [← hl2,List.drop_left]
theorem DelInv.keep {α:Type} {sz:Nat} {c:α→List Value} {q:α→Bool} {xs:List α} {n cap i j:Nat} {cr:List Value} {x:α} (h:DelInv sz c q xs n cap i j cr) (hx:xs[j]? = some x) (hk:q x=false) (hsz:∀ x,(c x).length=sz):DelInv sz c q xs n cap (i+1) (j+1) (cr.take (i*sz)++c x++cr.drop (i*sz+sz)):=by
 obtain ⟨hj,ex⟩:=List.getElem?_eq_some_iff.1 hx
 have hf:((xs.take (j+1)).filter fun x=>!q x)=((xs.take j).filter fun x=>!q x)++[x]:=by rw [A7 hx,List.filter_append]; simp [hk]
 have hlen:=h.len
 have hij:=h.ij
 have hjn:=h.jn
 have hnc:=h.nc
 have hnl:=h.nl
 have m1:(j+1)*sz≤cap*sz:=Nat.mul_le_mul_right _ (by omega)
 have m2:(i+1)*sz≤(j+1)*sz:=Nat.mul_le_mul_right _ (by omega)
 rw [Nat.succ_mul] at m1 m2
 rw [Nat.succ_mul] at m2
 have hc1:(cr.take (i*sz)++c x).length=i*sz+sz:=by rw [List.length_append,List.length_take,hsz]; omega
 refine ⟨by omega,by omega,hnc,hnl,?_,by rw [hf,List.length_append,h.fl]; rfl,?_,?_⟩
 ·rw [List.length_append,hc1,List.length_drop]; omega
 ·rw [hf,fm_append,← h.pre,Nat.succ_mul,← hc1,List.take_left]; simp
 ·rw [← (DelInv.step h.suf hx h.nl hsz).2]
  congr 1
  rw [List.drop_append,List.drop_of_length_le (by rw [hc1,Nat.succ_mul]; omega),List.nil_append,hc1,List.drop_drop]
  congr 1
  rw [Nat.succ_mul]; omega
theorem DelInv.skip {α:Type} {sz:Nat} {c:α→List Value} {q:α→Bool} {xs:List α} {n cap i j:Nat} {cr:List Value} {x:α} (h:DelInv sz c q xs n cap i j cr) (hx:xs[j]? = some x) (hk:q x=true) (hsz:∀ x,(c x).length=sz):DelInv sz c q xs n cap i (j+1) cr:=by
 obtain ⟨hj,ex⟩:=List.getElem?_eq_some_iff.1 hx
 have hf:((xs.take (j+1)).filter fun x=>!q x)=((xs.take j).filter fun x=>!q x):=by rw [A7 hx,List.filter_append]; simp [hk]
 have hij:=h.ij
 have hnl:=h.nl
 exact ⟨by omega,by omega,h.nc,hnl,h.len,by rw [hf]; exact h.fl,by rw [hf]; exact h.pre,(DelInv.step h.suf hx h.nl hsz).2⟩
theorem DelInv.fin {α:Type} {sz:Nat} {c:α→List Value} {q:α→Bool} {xs:List α} {n cap i off:Nat} {cr zs:List Value} {r:Nat} {te:TypeId} (h:DelInv sz c q xs n cap i n cr) (hm:cap≤maxLen) (hc:n≤cap) (hz:zs.length=(n-i)*sz) (hsz:∀ x,(c x).length=sz) (ho:off=if cap=i then 0 else i*sz) :
  Own te sz (.slice (some ⟨r,0,none⟩) i cap) (xs.filter fun x=>!q x).length ((xs.filter fun x=>!q x).flatMap c) (lsE r (cr.take off++zs++cr.drop (off+(n-i)*sz)) te):=by
 have hall:xs.take n=xs:=List.take_of_length_le (by have:=h.nl; omega)
 have hfl:=h.fl
 have hpre:=h.pre
 rw [hall] at hfl hpre
 have hij:=h.ij
 have hlen:=h.len
 have m1:i*sz+(n-i)*sz=n*sz:=by rw [← Nat.add_mul]; congr 1; omega
 have m2:n*sz≤cap*sz:=Nat.mul_le_mul_right _ hc
 rw [hfl]
 by_cases hci:cap=i
 ·rw [if_pos hci] at ho
  subst ho
  have hni:n-i=0:=by omega
  rw [hni,Nat.zero_mul] at hz
  have hz0:=List.eq_nil_of_length_eq_zero hz
  subst hz0
  simp only [hni,List.take_zero,List.nil_append,Nat.zero_mul,Nat.add_zero,List.drop_zero]
  exact .row (by omega) hm hlen hpre
 ·rw [if_neg hci] at ho
  subst ho
  refine .row (by omega) hm ?_ ?_
  ·rw [List.length_append,List.length_append,List.length_take,List.length_drop,hz]; omega
  ·rw [List.append_assoc,List.take_append_of_le_length (by rw [List.length_take]; omega),List.take_take,Nat.min_self]
   exact hpre
theorem indexf_chg (I0:World→Prop) (a:Option Addr) (n cap:Nat) (xs:List Chg) (hn:xs.length=n) (hn2:n < 9223372036854775807) (g:FuncId) (fs cs:List Value) (q:Chg→Bool) (hg:Aq Tryz.prog g=true) (hq:∀ x∈xs,Im g fs cs (fun x=>[av x.segs]) q I0 x):Ay Tryz.prog 135 [.slice a n cap,.func (.func g) fs.toArray cs.toArray] [] (fun w=>Sl 5 n (xs.flatMap Chg.cells) (.slice a n cap) w∧I0 w∧True) (fun _:Unit=>⟨True,iv (Dp q xs),[],fun _=>True⟩):=by
 refine Aj Tryz.func135 Z Z fun X w0=>(Ab (Aa (oj (Ak Z Z (on (qn (Ab (Ab (Aa (oj (mv Z Z (oj (Bn Z Z Tryz.underlying30 Z (oj (mv Z Z (on (qn (Ag (Aw (fun (sT:(Nat))=>(⟨sT≤n∧(xs.take sT).any q=false,[(0,.slice a n cap),(1,.func (.func g) fs.toArray cs.toArray),(4,iv 0),(7,iv n),(8,iv (sT:Int))],[],fun w=>Sl 5 n (xs.flatMap Chg.cells) (.slice a n cap) w∧I0 w∧True,n-sT⟩:Hd)) (0) (⟨Nat.zero_le _,by simp⟩) (⟨Z,Z,Z,Z,Z,tR⟩) .slnil (fun w h=>⟨(h.1),(h.2.1),tR⟩) ?_)))))))))))))))))))
 rintro i ⟨hi,ha⟩
 try dsimp only
 refine Ab (Aa (oj (Dd Z Z Z (on (qn (Ab ?_))))))
 refine A8 Z (fun ht=>?_) (fun hf=>?_)
 ·obtain ⟨x,hx⟩:∃ x,xs[i]? = some x:=⟨_,List.getElem?_eq_getElem (by omega)⟩
  refine Ah (qn (Ab (Ag (Ab (Aa (oj (mv Z Z (oj (Ak Z Z (on (qn (Ab (Aa (oj (mv Z Z (oj (mv Z Z (oj (mv Z Z (oj (Fc Z Z Z Tryz.underlying30 Cp (by omega) (fun w h=>Sl.some (h.1) (by omega)) ?_)))))))))))))))))))))
  refine oj (D4 Z Z Cp Z (fun w h=>Cv (h.1) (by decide) (fun _=>Z) hx) (Ac (d:=15) (v:=av x.segs) Z Z (oj (Ao Z Z (.cons Z .nil) hg (hq x (List.mem_of_getElem? hx))  (fun w h=>(h.2.1)) Z (fun _=>(Ae (fun w h=>h.2) (on (qn ?_))))))))
  refine Ap Z (fun ht=>?_) (fun hf=>?_)
  ·exact Ab (Aa (oj (mv Z Z (oj (Ak Z Z (on (qn (Af (br (qr (qr (br (qr (Ac (d:=4) (v:=iv (Dp q xs)) Z (by rw [J9 ha hx ht]) (As () Z (.tmp Z .nil) Z tR .slnil (fun w h=>tR) (.inl Z))))))))))))))))
  ·exact Ah (bn (qn (Aa (oj (add Z Z Z (by omega) (oj (mv Z Z (on (qn (Ar (i+1) (by dsimp only; omega) (⟨by (try dsimp only); omega,any_snoc ha hx hf⟩) (⟨Z,Z,Z,Z,Z,tR⟩) .slnil (fun w h=>⟨(h.1),(h.2.1),tR⟩)))))))))))
 ·refine A1 (qe (qe (be (qn (Ab (Aa (oj (Ak Z Z (on (qn (Af ?_)))))))))))
  have h4:i=n:=by omega
  exact Ac (d:=4) (v:=iv (Dp q xs)) Z (by rw [Hy (by rw [← ha,List.take_of_length_le (by omega)])]) (As () Z (.tmp Z .nil) Z tR .slnil (fun w h=>tR) (.inl Z))
theorem Ka (I0:World→Prop) (a:Option Addr) (n cap:Nat) (xs:List Chg) (hn:xs.length=n) (hn2:n < 9223372036854775807) (g:FuncId) (fs cs:List Value) (q:Chg→Bool) (hg:Aq Tryz.prog g=true) (hq:∀ x∈xs,Im g fs cs (fun x=>[av x.segs]) q I0 x):Ay Tryz.prog 56 [.slice a n cap,.func (.func g) fs.toArray cs.toArray] [] (fun w=>Sl 5 n (xs.flatMap Chg.cells) (.slice a n cap) w∧I0 w∧True) (fun _:Unit=>⟨True,.bool (xs.any q),[],fun _=>True⟩):=by
 refine Aj Tryz.func56 Z Z fun X w0=>(Ab (Aa (oj (Ak Z Z (on (qn (Ab (Aa (oj (mv Z Z (oj (mv Z Z (oj (Ao Z Z (.cons Z (.cons Z .nil)) fb_135 (indexf_chg I0 a n cap xs hn hn2 g fs cs q hg hq)  (fun w h=>⟨(h.1),(h.2.1),tR⟩) Z (fun _=>(Ae (fun w h=>h.2) (oj (gei Z Z Z (Ac (d:=8) (v:=.bool (xs.any q)) Z (by rw [Ix]) (oj (Ak Z Z (on ?_))))))))))))))))))))))
 exact qn (Af (As () Z (.tmp Z .nil) Z tR .slnil (fun w h=>tR) (.inl Z)))
theorem indexf_mb (I0:World→Prop) (a:Option Addr) (n cap:Nat) (xs:List Mb) (hn:xs.length=n) (hn2:n < 9223372036854775807) (g:FuncId) (fs cs:List Value) (q:Mb→Bool) (hg:Aq Tryz.prog g=true) (hq:∀ x∈xs,Im g fs cs (fun x=>[av x.segs]) q I0 x):Ay Tryz.prog 136 [.slice a n cap,.func (.func g) fs.toArray cs.toArray] [] (fun w=>Sl 3 n (xs.flatMap Mb.cells) (.slice a n cap) w∧I0 w∧True) (fun _:Unit=>⟨True,iv (Dp q xs),[],fun _=>True⟩):=by
 refine Aj Tryz.func136 Z Z fun X w0=>(Ab (Aa (oj (Ak Z Z (on (qn (Ab (Ab (Aa (oj (mv Z Z (oj (Bn Z Z Tryz.underlying24 Z (oj (mv Z Z (on (qn (Ag (Aw (fun (sT:(Nat))=>(⟨sT≤n∧(xs.take sT).any q=false,[(0,.slice a n cap),(1,.func (.func g) fs.toArray cs.toArray),(4,iv 0),(7,iv n),(8,iv (sT:Int))],[],fun w=>Sl 3 n (xs.flatMap Mb.cells) (.slice a n cap) w∧I0 w∧True,n-sT⟩:Hd)) (0) (⟨Nat.zero_le _,by simp⟩) (⟨Z,Z,Z,Z,Z,tR⟩) .slnil (fun w h=>⟨(h.1),(h.2.1),tR⟩) ?_)))))))))))))))))))
 rintro i ⟨hi,ha⟩
 try dsimp only
 refine Ab (Aa (oj (Dd Z Z Z (on (qn (Ab ?_))))))
 refine A8 Z (fun ht=>?_) (fun hf=>?_)
 ·obtain ⟨x,hx⟩:∃ x,xs[i]? = some x:=⟨_,List.getElem?_eq_getElem (by omega)⟩
  refine Ah (qn (Ab (Ag (Ab (Aa (oj (mv Z Z (oj (Ak Z Z (on (qn (Ab (Aa (oj (mv Z Z (oj (mv Z Z (oj (mv Z Z (oj (Fc Z Z Z Tryz.underlying24 Dk (by omega) (fun w h=>Sl.some (h.1) (by omega)) ?_)))))))))))))))))))))
  refine oj (D4 Z Z Dk Z (fun w h=>Cv (h.1) (by decide) (fun _=>Z) hx) (Ac (d:=15) (v:=av x.segs) Z Z (oj (Ao Z Z (.cons Z .nil) hg (hq x (List.mem_of_getElem? hx))  (fun w h=>(h.2.1)) Z (fun _=>(Ae (fun w h=>h.2) (on (qn ?_))))))))
  refine Ap Z (fun ht=>?_) (fun hf=>?_)
  ·exact Ab (Aa (oj (mv Z Z (oj (Ak Z Z (on (qn (Af (br (qr (qr (br (qr (Ac (d:=4) (v:=iv (Dp q xs)) Z (by rw [J9 ha hx ht]) (As () Z (.tmp Z .nil) Z tR .slnil (fun w h=>tR) (.inl Z))))))))))))))))
  ·exact Ah (bn (qn (Aa (oj (add Z Z Z (by omega) (oj (mv Z Z (on (qn (Ar (i+1) (by dsimp only; omega) (⟨by (try dsimp only); omega,any_snoc ha hx hf⟩) (⟨Z,Z,Z,Z,Z,tR⟩) .slnil (fun w h=>⟨(h.1),(h.2.1),tR⟩)))))))))))
 ·refine A1 (qe (qe (be (qn (Ab (Aa (oj (Ak Z Z (on (qn (Af ?_)))))))))))
  have h4:i=n:=by omega
  exact Ac (d:=4) (v:=iv (Dp q xs)) Z (by rw [Hy (by rw [← ha,List.take_of_length_le (by omega)])]) (As () Z (.tmp Z .nil) Z tR .slnil (fun w h=>tR) (.inl Z))
theorem containsf_mb (I0:World→Prop) (a:Option Addr) (n cap:Nat) (xs:List Mb) (hn:xs.length=n) (hn2:n < 9223372036854775807) (g:FuncId) (fs cs:List Value) (q:Mb→Bool) (hg:Aq Tryz.prog g=true) (hq:∀ x∈xs,Im g fs cs (fun x=>[av x.segs]) q I0 x):Ay Tryz.prog 119 [.slice a n cap,.func (.func g) fs.toArray cs.toArray] [] (fun w=>Sl 3 n (xs.flatMap Mb.cells) (.slice a n cap) w∧I0 w∧True) (fun _:Unit=>⟨True,.bool (xs.any q),[],fun _=>True⟩):=by
 refine Aj Tryz.func119 Z Z fun X w0=>(Ab (Aa (oj (Ak Z Z (on (qn (Ab (Aa (oj (mv Z Z (oj (mv Z Z (oj (Ao Z Z (.cons Z (.cons Z .nil)) fb_136 (indexf_mb I0 a n cap xs hn hn2 g fs cs q hg hq)  (fun w h=>⟨(h.1),(h.2.1),tR⟩) Z (fun _=>(Ae (fun w h=>h.2) (oj (gei Z Z Z (Ac (d:=8) (v:=.bool (xs.any q)) Z (by rw [Ix]) (oj (Ak Z Z (on ?_))))))))))))))))))))))
 exact qn (Af (As () Z (.tmp Z .nil) Z tR .slnil (fun w h=>tR) (.inl Z)))
theorem deln_chg (I0:World→Prop) (xs:List Chg) (hn:xs=[]) (g:FuncId) (fs cs:List Value) (q:Chg→Bool) (hg:Aq Tryz.prog g=true) (hq:∀ x∈xs,Im g fs cs (fun x=>[av x.segs]) q I0 x):Ay Tryz.prog 120 [.slice none 0 0,.func (.func g) fs.toArray cs.toArray] [] (fun w=>I0 w∧True) (fun _:Unit=>⟨True,.slice none 0 0,[],fun _=>True⟩):=by
 refine Aj Tryz.func120 Z Z fun X w0=>?_
 subst hn
 refine Ab (Aa (oj (Ak Z Z (on (qn (Ab (Aa (oj (mv Z Z (oj (mv Z Z (oj (Ao Z Z (.cons Z (.cons Z .nil)) fb_135 (indexf_chg I0 none 0 0 [] Z (by omega) g fs cs q hg hq)  (fun w h=>⟨Be,(h.1),tR⟩) Z (fun _=>(Ae (fun w h=>h.2) (oj (Ak Z Z (on (qn (Ab (Ab ?_)))))))))))))))))))))
 exact Aa (oj (mv Z Z (oj (Eu Z Z Z (on (qn (Fq Z (fun ht=>(Ab (Aa (oj (mv Z Z (oj (Ak Z Z (on (qn (Af (qr (As () Z (.tmp Z .nil) Z tR .slnil (fun w h=>tR) (.inl Z))))))))))))) (fun hf=>absurd hf (fun h=>h Z)))))))))
theorem delr_chg (I0:World→Prop) (r n cap:Nat) (xs:List Chg) (cur:List Value) (hn:xs.length=n) (hn2:n≤1000000) (hc:n≤cap) (hm:cap≤maxLen) (hl:cur.length=cap*5) (hx0:cur.take (n*5)=xs.flatMap Chg.cells) (g:FuncId) (fs cs:List Value) (q:Chg→Bool) (hg:Aq Tryz.prog g=true) (hq:∀ x∈xs,Im g fs cs (fun x=>[av x.segs]) q I0 x):Ay Tryz.prog 120 [.slice (some ⟨r,0,none⟩) n cap,.func (.func g) fs.toArray cs.toArray] [lsE r cur 49] (fun w=>I0 w∧True) (fun x:Value × A9=>⟨Own 49 5 x.1 (xs.filter fun x=>!q x).length ((xs.filter fun x=>!q x).flatMap Chg.cells) x.2,x.1,[x.2],fun _=>True⟩):=by
 refine Aj Tryz.func120 Z Z fun X w0=>(Ab (Aa (oj (Ak Z Z (on (qn (Ab (Aa (oj (mv Z Z (oj (mv Z Z (oj (callL [_] Z Z (.cons Z (.cons Z .nil)) fb_135 (.refl _) (indexf_chg I0 (some ⟨r,0,none⟩) n cap xs hn (by omega) g fs cs q hg hq) (fun w ho h=>⟨row_slL (ho _ _ (.head _)) hl hc hx0 hn,(h.1),tR⟩) (fun _=>(oj (Ak Z Z (on (qn (Ab (Ab ?_)))))))))))))))))))))
 refine Aa (oj (mv Z Z (oj (Eu Z Z Z (on (qn ?_))))))
 refine Fq Z (fun ht=>?_) (fun hf=>?_)
 ·have hany:=firstIdx_neg ht
  have hfil:=filter_none hany
  exact Ab (Aa (oj (mv Z Z (oj (Ak Z Z (on (qn (Af (qr (As (.slice (some ⟨r,0,none⟩) n cap,lsE r cur 49) Z (.tmp Z .nil) Z (by show Own _ _ _ _ _ _; rw [hfil,hn]; exact .row hc hm hl hx0) (.refl _) (fun w h=>tR) (.inl Z)))))))))))
 ·obtain ⟨i0,he0,hi0,ha0,hq0⟩:=firstIdx_pos hf
  refine Ac (d:=5) (v:=iv (i0:Int)) Z (by rw [he0]) (Ah (qn (Ab (Ab (Aa (oj (mv Z Z (oj (add Z Z Z (by omega) (Ac (d:=15) (v:=iv ((i0+1:Nat):Int)) Z (by first | rfl | (congr 1; omega)) (oj (Ak Z Z (on (qn (Ag (Aw (fun (sT:(Nat) × (Nat) × (List Value))=>(⟨DelInv 5 Chg.cells q xs n cap sT.1 sT.2.1 sT.2.2,[(0,.slice (some ⟨r,0,none⟩) n cap),(1,.func (.func g) fs.toArray cs.toArray),(5,iv (sT.1:Int)),(6,iv (sT.2.1:Int))],[lsE r sT.2.2 49],fun w=>I0 w∧True,n-sT.2.1⟩:Hd)) (i0,i0+1,cur) (DelInv.init hn hl hc hx0 hi0 ha0 hq0 (fun _=>Z)) (⟨Z,Z,Z,Z,tR⟩) (.refl _) (fun w h=>⟨(h.1),tR⟩) ?_))))))))))))))))
  rintro ⟨i,j,cr⟩ hinv
  try dsimp only
  try dsimp only at hinv
  try dsimp only at hinv
  refine Ab (Ab (Aa (oj (mv Z Z (oj (mv Z Z (oj (Bn Z Z Tryz.underlying30 Z (oj (Dd Z Z Z (on (qn ?_))))))))))))
  refine A8 Z (fun hlt=>?_) (fun hge=>?_)
  ·obtain ⟨x,hx⟩:∃ x,xs[j]? = some x:=⟨_,List.getElem?_eq_getElem (by omega)⟩
   have hij:=hinv.ij
   have hjn:=hinv.jn
   have hlen:=hinv.len
   refine Ah (qn (Ab (Ag (Ab (Aa (oj (mv Z Z (oj (mv Z Z (oj (ixR (n':=j*5) Z Z Z Tryz.underlying30 Cp (by omega) (by simp) (oj (ldL Z Z Cp (.head _) (hinv.at hx (fun _=>Z)) Z (Ac (d:=25) (v:=av x.segs) Z Z (oj (C7 Z Fv (fun r7=>(oj (C0 Z Z Cp Z Z .head (on (qn (Ab ?_))))))))))))))))))))))
   refine Aa (oj (mv Z Z (oj (Eb Z Z Cp (.head _) Z (oj (Ao Z Z (.cons Z .nil) hg (hq x (List.mem_of_getElem? hx))  (fun w h=>(h.1)) Z (fun _=>(Ae (fun w h=>h.2) (oj (not Z Z (on (qn ?_))))))))))))
   refine Ap Z (fun ht=>?_) (fun hf=>?_)
   ·refine Ab (Aa (oj (mv Z Z (oj (mv Z Z (oj (Eb Z Z Cp (.head _) Z (oj (ixR (n':=i*5) Z Z Z Tryz.underlying30 Cp (by omega) (by simp) (oj (stL (cr.take (i*5)++x.cells++cr.drop (i*5+5)) Z Z Cp Z Z (Z) (by omega) (.tail .head) (on (qn (Aa (oj (mv Z Z (oj (add Z Z Z (by omega) (Ac (d:=35) (v:=iv ((i+1:Nat):Int)) Z (by first | rfl | (congr 1; omega)) (oj (Ak Z Z (on (bn ?_)))))))))))))))))))))))
    exact qn (Aa (oj (mv Z Z (oj (add Z Z Z (by omega) (Ac (d:=21) (v:=iv ((j+1:Nat):Int)) Z (by first | rfl | (congr 1; omega)) (oj (Ak Z Z (on (qn (Ar (i+1,j+1,cr.take (i*5)++x.cells++cr.drop (i*5+5)) (by dsimp only; omega) (hinv.keep hx (by simpa using ht) (fun _=>Z)) (⟨Z,Z,Z,Z,tR⟩) (.cons _ (.refl _)) (fun w h=>⟨(h.1),tR⟩))))))))))))
   ·exact Ah (bn (qn (Aa (oj (mv Z Z (oj (add Z Z Z (by omega) (Ac (d:=21) (v:=iv ((j+1:Nat):Int)) Z (by first | rfl | (congr 1; omega)) (oj (Ak Z Z (on (qn (Ar (i,j+1,cr) (by dsimp only; omega) (hinv.skip hx (by simpa using hf) (fun _=>Z)) (⟨Z,Z,Z,Z,tR⟩) (.cons _ (.refl _)) (fun w h=>⟨(h.1),tR⟩))))))))))))))
  ·have hjn:=hinv.jn
   have hij:=hinv.ij
   have hlen:=hinv.len
   have h4:j=n:=by omega
   subst h4
   refine A1 (qe (qe (be (qn (Ab (Aa (oj (mv Z Z (oj (mv Z Z (oj (slc (l':=i) Z Z Tryz.underlying30 Cp Z Z (.inl Z) ⟨_,Z,by omega⟩ ?_))))))))))))
   refine Ac (d:=38) (v:=.slice (some ⟨r,if cap=i then 0 else i*5,none⟩) (j-i) (cap-i)) Z (by split <;> simp [Fk]) ?_
   refine oj (clr Z Z el_30 (by split <;> omega) (fun _=>.head) (fun zs hzl hz1=>?_))
   try dsimp only
   exact on (qn (Ab (Aa (oj (mv Z Z (oj (mv Z Z (oj (slc (h:=i) Z Z Tryz.underlying30 Cp Z ⟨_,Z,by omega⟩ (.inl Z) Z (Ac (d:=41) (v:=.slice (some ⟨r,0,none⟩) i cap) Z (by simp [Addr.add]) (oj (Ak Z Z (on (qn (Af (As (Value.slice (some ⟨r,0,none⟩) i cap,_) Z (.tmp Z .nil) Z (hinv.fin hm hc hzl (fun _=>Z) Z) (.refl _) (fun w h=>tR) (.inl Z)))))))))))))))))
theorem deln_mb (I0:World→Prop) (xs:List Mb) (hn:xs=[]) (g:FuncId) (fs cs:List Value) (q:Mb→Bool) (hg:Aq Tryz.prog g=true) (hq:∀ x∈xs,Im g fs cs (fun x=>[av x.segs]) q I0 x):Ay Tryz.prog 58 [.slice none 0 0,.func (.func g) fs.toArray cs.toArray] [] (fun w=>I0 w∧True) (fun _:Unit=>⟨True,.slice none 0 0,[],fun _=>True⟩):=by
 refine Aj Tryz.func58 Z Z fun X w0=>?_
 subst hn
 refine Ab (Aa (oj (Ak Z Z (on (qn (Ab (Aa (oj (mv Z Z (oj (mv Z Z (oj (Ao Z Z (.cons Z (.cons Z .nil)) fb_136 (indexf_mb I0 none 0 0 [] Z (by omega) g fs cs q hg hq)  (fun w h=>⟨Be,(h.1),tR⟩) Z (fun _=>(Ae (fun w h=>h.2) (oj (Ak Z Z (on (qn (Ab (Ab ?_)))))))))))))))))))))
 exact Aa (oj (mv Z Z (oj (Eu Z Z Z (on (qn (Fq Z (fun ht=>(Ab (Aa (oj (mv Z Z (oj (Ak Z Z (on (qn (Af (qr (As () Z (.tmp Z .nil) Z tR .slnil (fun w h=>tR) (.inl Z))))))))))))) (fun hf=>absurd hf (fun h=>h Z)))))))))
theorem delr_mb (I0:World→Prop) (r n cap:Nat) (xs:List Mb) (cur:List Value) (hn:xs.length=n) (hn2:n≤1000000) (hc:n≤cap) (hm:cap≤maxLen) (hl:cur.length=cap*3) (hx0:cur.take (n*3)=xs.flatMap Mb.cells) (g:FuncId) (fs cs:List Value) (q:Mb→Bool) (hg:Aq Tryz.prog g=true) (hq:∀ x∈xs,Im g fs cs (fun x=>[av x.segs]) q I0 x):Ay Tryz.prog 58 [.slice (some ⟨r,0,none⟩) n cap,.func (.func g) fs.toArray cs.toArray] [lsE r cur 45] (fun w=>I0 w∧True) (fun x:Value × A9=>⟨Own 45 3 x.1 (xs.filter fun x=>!q x).length ((xs.filter fun x=>!q x).flatMap Mb.cells) x.2,x.1,[x.2],fun _=>True⟩):=by
 refine Aj Tryz.func58 Z Z fun X w0=>(Ab (Aa (oj (Ak Z Z (on (qn (Ab (Aa (oj (mv Z Z (oj (mv Z Z (oj (callL [_] Z Z (.cons Z (.cons Z .nil)) fb_136 (.refl _) (indexf_mb I0 (some ⟨r,0,none⟩) n cap xs hn (by omega) g fs cs q hg hq) (fun w ho h=>⟨row_slL (ho _ _ (.head _)) hl hc hx0 hn,(h.1),tR⟩) (fun _=>(oj (Ak Z Z (on (qn (Ab (Ab ?_)))))))))))))))))))))
 refine Aa (oj (mv Z Z (oj (Eu Z Z Z (on (qn ?_))))))
 refine Fq Z (fun ht=>?_) (fun hf=>?_)
 ·have hany:=firstIdx_neg ht
  have hfil:=filter_none hany
  exact Ab (Aa (oj (mv Z Z (oj (Ak Z Z (on (qn (Af (qr (As (.slice (some ⟨r,0,none⟩) n cap,lsE r cur 45) Z (.tmp Z .nil) Z (by show Own _ _ _ _ _ _; rw [hfil,hn]; exact .row hc hm hl hx0) (.refl _) (fun w h=>tR) (.inl Z)))))))))))
 ·obtain ⟨i0,he0,hi0,ha0,hq0⟩:=firstIdx_pos hf
  refine Ac (d:=5) (v:=iv (i0:Int)) Z (by rw [he0]) (Ah (qn (Ab (Ab (Aa (oj (mv Z Z (oj (add Z Z Z (by omega) (Ac (d:=15) (v:=iv ((i0+1:Nat):Int)) Z (by first | rfl | (congr 1; omega)) (oj (Ak Z Z (on (qn (Ag (Aw (fun (sT:(Nat) × (Nat) × (List Value))=>(⟨DelInv 3 Mb.cells q xs n cap sT.1 sT.2.1 sT.2.2,[(0,.slice (some ⟨r,0,none⟩) n cap),(1,.func (.func g) fs.toArray cs.toArray),(5,iv (sT.1:Int)),(6,iv (sT.2.1:Int))],[lsE r sT.2.2 45],fun w=>I0 w∧True,n-sT.2.1⟩:Hd)) (i0,i0+1,cur) (DelInv.init hn hl hc hx0 hi0 ha0 hq0 (fun _=>Z)) (⟨Z,Z,Z,Z,tR⟩) (.refl _) (fun w h=>⟨(h.1),tR⟩) ?_))))))))))))))))
  rintro ⟨i,j,cr⟩ hinv
  try dsimp only
  try dsimp only at hinv
  try dsimp only at hinv
  refine Ab (Ab (Aa (oj (mv Z Z (oj (mv Z Z (oj (Bn Z Z Tryz.underlying24 Z (oj (Dd Z Z Z (on (qn ?_))))))))))))
  refine A8 Z (fun hlt=>?_) (fun hge=>?_)
  ·obtain ⟨x,hx⟩:∃ x,xs[j]? = some x:=⟨_,List.getElem?_eq_getElem (by omega)⟩
   have hij:=hinv.ij
   have hjn:=hinv.jn
   have hlen:=hinv.len
   refine Ah (qn (Ab (Ag (Ab (Aa (oj (mv Z Z (oj (mv Z Z (oj (ixR (n':=j*3) Z Z Z Tryz.underlying24 Dk (by omega) (by simp) (oj (ldL Z Z Dk (.head _) (hinv.at hx (fun _=>Z)) Z (Ac (d:=25) (v:=av x.segs) Z Z (oj (C7 Z zok_45 (fun r7=>(oj (C0 Z Z Dk Z Z .head (on (qn (Ab ?_))))))))))))))))))))))
   refine Aa (oj (mv Z Z (oj (Eb Z Z Dk (.head _) Z (oj (Ao Z Z (.cons Z .nil) hg (hq x (List.mem_of_getElem? hx))  (fun w h=>(h.1)) Z (fun _=>(Ae (fun w h=>h.2) (oj (not Z Z (on (qn ?_))))))))))))
   refine Ap Z (fun ht=>?_) (fun hf=>?_)
   ·refine Ab (Aa (oj (mv Z Z (oj (mv Z Z (oj (Eb Z Z Dk (.head _) Z (oj (ixR (n':=i*3) Z Z Z Tryz.underlying24 Dk (by omega) (by simp) (oj (stL (cr.take (i*3)++x.cells++cr.drop (i*3+3)) Z Z Dk Z Z (Z) (by omega) (.tail .head) (on (qn (Aa (oj (mv Z Z (oj (add Z Z Z (by omega) (Ac (d:=35) (v:=iv ((i+1:Nat):Int)) Z (by first | rfl | (congr 1; omega)) (oj (Ak Z Z (on (bn ?_)))))))))))))))))))))))
    exact qn (Aa (oj (mv Z Z (oj (add Z Z Z (by omega) (Ac (d:=21) (v:=iv ((j+1:Nat):Int)) Z (by first | rfl | (congr 1; omega)) (oj (Ak Z Z (on (qn (Ar (i+1,j+1,cr.take (i*3)++x.cells++cr.drop (i*3+3)) (by dsimp only; omega) (hinv.keep hx (by simpa using ht) (fun _=>Z)) (⟨Z,Z,Z,Z,tR⟩) (.cons _ (.refl _)) (fun w h=>⟨(h.1),tR⟩))))))))))))
   ·exact Ah (bn (qn (Aa (oj (mv Z Z (oj (add Z Z Z (by omega) (Ac (d:=21) (v:=iv ((j+1:Nat):Int)) Z (by first | rfl | (congr 1; omega)) (oj (Ak Z Z (on (qn (Ar (i,j+1,cr) (by dsimp only; omega) (hinv.skip hx (by simpa using hf) (fun _=>Z)) (⟨Z,Z,Z,Z,tR⟩) (.cons _ (.refl _)) (fun w h=>⟨(h.1),tR⟩))))))))))))))
  ·have hjn:=hinv.jn
   have hij:=hinv.ij
   have hlen:=hinv.len
   have h4:j=n:=by omega
   subst h4
   refine A1 (qe (qe (be (qn (Ab (Aa (oj (mv Z Z (oj (mv Z Z (oj (slc (l':=i) Z Z Tryz.underlying24 Dk Z Z (.inl Z) ⟨_,Z,by omega⟩ ?_))))))))))))
   refine Ac (d:=38) (v:=.slice (some ⟨r,if cap=i then 0 else i*3,none⟩) (j-i) (cap-i)) Z (by split <;> simp [Fk]) ?_
   refine oj (clr Z Z el_24 (by split <;> omega) (fun _=>.head) (fun zs hzl hz1=>?_))
   try dsimp only
   exact on (qn (Ab (Aa (oj (mv Z Z (oj (mv Z Z (oj (slc (h:=i) Z Z Tryz.underlying24 Dk Z ⟨_,Z,by omega⟩ (.inl Z) Z (Ac (d:=41) (v:=.slice (some ⟨r,0,none⟩) i cap) Z (by simp [Addr.add]) (oj (Ak Z Z (on (qn (Af (As (Value.slice (some ⟨r,0,none⟩) i cap,_) Z (.tmp Z .nil) Z (hinv.fin hm hc hzl (fun _=>Z) Z) (.refl _) (fun w h=>tR) (.inl Z)))))))))))))))))
end Go.Chx
namespace Go.Proofs
open Go.Shelf Go.RowKit Go.Lib Go.Sort Go.Chx
instance:Inhabited Mb:=⟨⟨0,0,0⟩⟩
instance:Inhabited Chg:=⟨⟨0,0,0,0,0⟩⟩
set_option maxHeartbeats 1000000 in
theorem Tryz.closure61 (a0 a1 a2 b0 b1 b2:Int) (W:World):Calls Tryz.prog 61 #[.agg #[.int .i64 a0,.int .i64 a1,.int .i64 a2],.agg #[.int .i64 b0,.int .i64 b1,.int .i64 b2]] W fun e w'=>e=.returned (.int .i64 (Lib.compareInt a0 b0))∧∃ q os',w'=grow (W.drewN q) os':=by
 have hcon:=fun W'=>AnyG.cmp_Compare_int Tryz.cmpInt a0 b0 W'
 change ∀ W',Calls Tryz.prog 62 _ _ _ at hcon
 generalize Lib.compareInt a0 b0=r at hcon ⊢
 go_enter Tryz.func61,Tryz.ntmps61
 go_wp2_with (go_at_call 62; refine (hcon _).mono ?_; rintro e w' ⟨rfl,rfl⟩)
 go_ret
 exact ⟨rfl,0,_,by rw [alloc_eq_grow,alloc_eq_grow,grow_grow]; rfl⟩
set_option maxHeartbeats 1000000 in
theorem Tryz.closure123 (a0 a1 a2 a3 a4 b0 b1 b2 b3 b4:Int) (W:World):Calls Tryz.prog 123 #[.agg #[.int .i64 a0,.int .i64 a1,.int .i64 a2,.int .i64 a3,.int .i64 a4],.agg #[.int .i64 b0,.int .i64 b1,.int .i64 b2,.int .i64 b3,.int .i64 b4]] W fun e w'=>e=.returned (.int .i64 (Lib.compareInt a1 b1))∧∃ q os',w'=grow (W.drewN q) os':=by
 have hcon:=fun W'=>AnyG.cmp_Compare_int Tryz.cmpInt a1 b1 W'
 change ∀ W',Calls Tryz.prog 62 _ _ _ at hcon
 generalize Lib.compareInt a1 b1=r at hcon ⊢
 go_enter Tryz.func123,Tryz.ntmps123
 go_wp2_with (go_at_call 62; refine (hcon _).mono ?_; rintro e w' ⟨rfl,rfl⟩)
 go_ret
 exact ⟨rfl,0,_,by rw [alloc_eq_grow,alloc_eq_grow,grow_grow]; rfl⟩
end Go.Proofs
namespace Go.Chx
open Go Go.Proofs Go.Sort Go.Shelf Go.RowKit Go.Lib
theorem flatK_eq {α:Type} [Inhabited α] {enc:α→List Value} {k:Nat} (hk:∀ x,(enc x).length=k) (xs:List α):flatK enc k xs.toArray=(xs.flatMap enc).toArray:=by
 apply Array.ext
 ·simp [Il hk]
 ·intro t h1 h2
  have ht:t < xs.length*k:=by simpa using h1
  have k0:0 < k:=by
   rcases Nat.eq_zero_or_pos k with h | h
   ·subst h; simp at ht
   ·exact h
  have hi:t / k < xs.length:=(Nat.div_lt_iff_lt_mul k0).2 ht
  have hr:t % k < k:=Nat.mod_lt _ k0
  have e1:=get_flatK enc k xs.toArray t (by simpa using ht)
  rw [getElem!_pos _ t h1] at e1
  rw [e1]
  have hx:xs[t / k]? = some xs[t / k]:=List.getElem?_eq_getElem hi
  have e2:=fm_elem hk hx
  have e3:(enc xs[t / k])[t % k]? = (xs.flatMap enc)[t]?:=by
   rw [← e2,List.getElem?_take,if_pos hr,List.getElem?_drop,Nat.div_add_mod' t k]
  have hlen:t < (xs.flatMap enc).length:=by simpa using h2
  rw [List.getElem?_eq_getElem hlen,List.getElem?_eq_getElem (by rw [hk]; exact hr)] at e3
  have e4:(xs.toArray)[t / k]! = xs[t / k]:=by simp [hi]
  rw [e4]
  have e5:(enc xs[t / k])[t % k]! = (enc xs[t / k])[t % k]'(by rw [hk]; exact hr):=getElem!_pos _ _ _
  rw [e5]
  injection e3 with e3
theorem holdsV {w:World} {r:Nat} {e:TypeId} {F:List Value} {cur:List Value} (hw:w.heap[r]? = some (.cells cur.toArray e (0,0))) (hx:cur.take F.length=F):Holds id w r 0 F.toArray:=by
 intro j hj
 have hj':j < F.length:=by simpa using hj
 constructor
 ·rw [Nat.zero_add]
  refine E0 hw ?_
  have:(cur.take F.length)[j]? = some F[j]:=by rw [hx]; simp [hj']
  rw [List.getElem?_take,if_pos hj'] at this
  rw [this]; simp [hj']
 ·simp [World.frozen?,hw]
theorem WSat.putRowV {X M:Nat→Prop} {w0:World} {I:World→Prop} {w:World} {r:Nat} {e:TypeId} {ds:List Value} {cur:List Value} (h:WSat X M w0 [some (r,.cells cur.toArray e (0,0))] I w) (hc:ds.length≤cur.length) (q:Nat) (os:Array Obj) :
  WSat X M w0 [some (r,.cells (ds++cur.drop ds.length).toArray e (0,0))] I (Sort.grow (Sort.putRow id (Sort.ahead w q) r 0 ds.toArray) os):=by
 have hr:=h.own r _ (.head _)
 have hlt:=Du hr
 have:=WSat.grow (w:=Sort.putRow id (Sort.ahead w q) r 0 ds.toArray) (l:=[some (r,.cells (ds++cur.drop ds.length).toArray e (0,0))]) (I:=I) (X:=X) (M:=M) (w0:=w0) ?_ os.toList
 ·simpa using this
 ·have hp:putCells id 0 ds.toArray cur.toArray=(ds++cur.drop ds.length).toArray:=by
   apply Array.ext_getElem?
   intro k
   unfold putCells
   rw [Array.getElem?_mapIdx]
   simp only [List.getElem?_toArray,List.size_toArray,Nat.zero_le,true_and,Nat.zero_add,Nat.sub_zero]
   by_cases hk:k < ds.length
   ·rw [List.getElem?_append_left hk]
    have hk2:k < cur.length:=by omega
    simp [hk,hk2]
   ·rw [List.getElem?_append_right (Nat.le_of_not_lt hk)]
    simp only [List.getElem?_drop,if_neg hk]
    have:ds.length+(k-ds.length)=k:=by omega
    rw [this]; simp
  refine h.upd .head ?_ ?_ ?_ rfl rfl rfl
  ·simp [Sort.putRow,mapBlock,Sort.ahead]
  ·simp only [Sort.putRow,mapBlock,Sort.ahead,Array.getElem?_modify,if_true,hr,Option.map_some,onCells,hp]
  ·intro b hb
   simp only [Sort.putRow,mapBlock,Sort.ahead,Array.getElem?_modify]
   rw [if_neg (fun e=>hb e.symm)]
theorem swo_of {α:Type} (key:α→Int):SWO (ltOf fun x y:α=>Lib.compareInt (key x) (key y)):=by
 have h:∀ x y:α,ltOf (fun x y:α=>Lib.compareInt (key x) (key y)) x y=decide (key x < key y):=fun x y=>by
  unfold ltOf Lib.compareInt
  by_cases h1:key x < key y
  ·simp [h1]
  ·by_cases h2:key y < key x <;> simp [h1,h2]
 refine ⟨fun x=>by rw [h]; simp,fun x y z h1 h2=>?_,fun x y z h1 h2=>?_⟩
 ·rw [h] at *; simp at *; omega
 ·rw [h] at *; simp at *; omega
theorem sort_mb (v:Value) (n:Nat) (xs:List Mb) (en:A9) (ho:Own 45 3 v n (xs.flatMap Mb.cells) en) (hn:xs.length=n) (hn2:n≤1000000) :
  Ay Tryz.prog 60 [v,.func (.func 61) #[] #[]] [en] (fun _=>True) (fun x:A9 × List Mb=>⟨x.2.Perm xs∧x.2.Pairwise (fun a b=>a.d≤b.d)∧Own 45 3 v n (x.2.flatMap Mb.cells) x.1,.tuple #[],[x.1],fun _=>True⟩):=by
 generalize hxs:xs.flatMap Mb.cells=fs at ho
 cases ho with
 | nil =>
  have h0:xs=[]:=List.eq_nil_of_length_eq_zero hn
  subst h0
  intro X w hw
  have h:Calls Tryz.prog 60 #[.slice none 0 0,.func (.func 61) #[] #[]] w fun e w'=>e=.returned (.tuple #[])∧w'=w:=AnyF.slices_SortFunc_none Tryz.sortMb none 0 _ w
  refine h.mono ?_
  rintro e w' ⟨rfl,rfl⟩
  exact ⟨(none,[]),⟨.refl _,.nil,.nil⟩,rfl,hw⟩
 | @row r n cap cur fs hc hm hl hx =>
  subst hn hxs
  intro X w hw
  have hr:=hw.own r _ (.head _)
  have hlenF:(xs.flatMap Mb.cells).length=xs.length*3:=Il (f:=Mb.cells) (n:=3) (fun _=>rfl) xs
  have eg:∀ args w,(callFunc 61 args).run Tryz.prog w=.ok (.enter 61 args) w:=enters_of Tryz.func61 (by kernel_rfl) rfl
  have hcmp:CmpLays Tryz.prog 61 #[] Mb.cells 3 (fun x y=>Lib.compareInt x.d y.d) r 0 xs.toArray.size w:=fun _ _ _ _ x y=>Tryz.closure61 x.d x.s x.v y.d y.s y.v _
  have hH:HoldsK Mb.cells 3 w r 0 xs.toArray:=by
   unfold HoldsK
   rw [flatK_eq (enc:=Mb.cells) (k:=3) (fun _=>rfl)]
   exact holdsV hr (by rw [hlenF]; exact hx)
  have h:Calls Tryz.prog 60 #[.slice (some ⟨r,0,none⟩) xs.length cap,.func (.func 61) #[] #[]] w fun e w'=>e=.returned (.tuple #[])∧∃ d' n os,PermIn 0 xs.toArray.size xs.toArray d'∧SortedIn (ltOf fun x y=>Lib.compareInt x.d y.d) 0 xs.toArray.size d'∧w'=sortWorldK Mb.cells 3 w r 0 n d' os :=
   AnyQ.slices_SortFunc Tryz.sortMb 3 (Dk.isAgg ·) (Dk.size ·) Mb.cells (fun _=>rfl) (fun x v hv=>by simp [Mb.cells] at hv; rcases hv with rfl | rfl | rfl <;> rfl) (fun x y=>Lib.compareInt x.d y.d) (swo_of (fun x:Mb=>x.d)) 61 #[] r 0 cap xs.toArray w eg hcmp hH (Du hr) (by simp; omega)
  refine h.mono ?_
  rintro e w' ⟨rfl,d',q,os,hp,hs,rfl⟩
  obtain ⟨hsz,_,hperm⟩:=hp
  have hd:d'.toList.toArray=d':=by simp
  have hdl:d'.toList.length=xs.length:=by simpa using hsz
  have hperm':d'.toList.Perm xs:=by
   have e1:(d'.extract 0 xs.toArray.size)=d':=by rw [← hsz]; simp
   have e2:(xs.toArray.extract 0 xs.toArray.size)=xs.toArray:=by simp
   rw [e1,e2] at hperm
   simpa using hperm
  refine ⟨(lsE r (d'.toList.flatMap Mb.cells++cur.drop (d'.toList.flatMap Mb.cells).length) 45,d'.toList),⟨hperm',?_,?_⟩,rfl,?_⟩
  ·rw [List.pairwise_iff_getElem]
   intro i j hi hj hij
   have h1:=hs i j (Nat.zero_le _) hij (by rw [← hsz]; simpa using hj)
   have hi':i < d'.size:=by simpa using hi
   have hj':j < d'.size:=by simpa using hj
   rw [getElem!_pos d' i hi',getElem!_pos d' j hj'] at h1
   unfold ltOf Lib.compareInt at h1
   simp only [Array.getElem_toList]
   by_cases h2:(d'[j]).d < (d'[i]).d
   ·simp [h2] at h1
   ·omega
  ·have hl2:(d'.toList.flatMap Mb.cells).length=xs.length*3:=by rw [Il (f:=Mb.cells) (n:=3) (fun _=>rfl),hdl]
   refine .row hc hm ?_ ?_
   ·rw [List.length_append,List.length_drop,hl2,hl]
    have:xs.length*3≤cap*3:=Nat.mul_le_mul_right _ hc
    omega
   ·rw [← hl2,List.take_left]
  ·have:=WSat.putRowV hw (ds:=d'.toList.flatMap Mb.cells) (by rw [Il (f:=Mb.cells) (n:=3) (fun _=>rfl),hdl,hl]; exact Nat.mul_le_mul_right _ hc) q os
   rw [← flatK_eq (enc:=Mb.cells) (k:=3) (fun _=>rfl),hd] at this
   exact this
theorem sort_chg (v:Value) (n:Nat) (xs:List Chg) (en:A9) (ho:Own 49 5 v n (xs.flatMap Chg.cells) en) (hn:xs.length=n) (hn2:n≤1000000) :
  Ay Tryz.prog 122 [v,.func (.func 123) #[] #[]] [en] (fun _=>True) (fun x:A9 × List Chg=>⟨x.2.Perm xs∧x.2.Pairwise (fun a b=>a.d≤b.d)∧Own 49 5 v n (x.2.flatMap Chg.cells) x.1,.tuple #[],[x.1],fun _=>True⟩):=by
 generalize hxs:xs.flatMap Chg.cells=fs at ho
 cases ho with
 | nil =>
  have h0:xs=[]:=List.eq_nil_of_length_eq_zero hn
  subst h0
  intro X w hw
  have h:Calls Tryz.prog 122 #[.slice none 0 0,.func (.func 123) #[] #[]] w fun e w'=>e=.returned (.tuple #[])∧w'=w:=AnyF.slices_SortFunc_none Tryz.sortChg none 0 _ w
  refine h.mono ?_
  rintro e w' ⟨rfl,rfl⟩
  exact ⟨(none,[]),⟨.refl _,.nil,.nil⟩,rfl,hw⟩
 | @row r n cap cur fs hc hm hl hx =>
  subst hn hxs
  intro X w hw
  have hr:=hw.own r _ (.head _)
  have hlenF:(xs.flatMap Chg.cells).length=xs.length*5:=Il (f:=Chg.cells) (n:=5) (fun _=>rfl) xs
  have eg:∀ args w,(callFunc 123 args).run Tryz.prog w=.ok (.enter 123 args) w:=enters_of Tryz.func123 (by kernel_rfl) rfl
  have hcmp:CmpLays Tryz.prog 123 #[] Chg.cells 5 (fun x y=>Lib.compareInt x.d y.d) r 0 xs.toArray.size w:=fun _ _ _ _ x y=>Tryz.closure123 x.k x.d x.p x.v x.c y.k y.d y.p y.v y.c _
  have hH:HoldsK Chg.cells 5 w r 0 xs.toArray:=by
   unfold HoldsK
   rw [flatK_eq (enc:=Chg.cells) (k:=5) (fun _=>rfl)]
   exact holdsV hr (by rw [hlenF]; exact hx)
  have h:Calls Tryz.prog 122 #[.slice (some ⟨r,0,none⟩) xs.length cap,.func (.func 123) #[] #[]] w fun e w'=>e=.returned (.tuple #[])∧∃ d' n os,PermIn 0 xs.toArray.size xs.toArray d'∧SortedIn (ltOf fun x y=>Lib.compareInt x.d y.d) 0 xs.toArray.size d'∧w'=sortWorldK Chg.cells 5 w r 0 n d' os :=
   AnyQ.slices_SortFunc Tryz.sortChg 5 (Cp.isAgg ·) (Cp.size ·) Chg.cells (fun _=>rfl) (fun x v hv=>by simp [Chg.cells] at hv; rcases hv with rfl | rfl | rfl | rfl | rfl <;> rfl) (fun x y=>Lib.compareInt x.d y.d) (swo_of (fun x:Chg=>x.d)) 123 #[] r 0 cap xs.toArray w eg hcmp hH (Du hr) (by simp; omega)
  refine h.mono ?_
  rintro e w' ⟨rfl,d',q,os,hp,hs,rfl⟩
  obtain ⟨hsz,_,hperm⟩:=hp
  have hd:d'.toList.toArray=d':=by simp
  have hdl:d'.toList.length=xs.length:=by simpa using hsz
  have hperm':d'.toList.Perm xs:=by
   have e1:(d'.extract 0 xs.toArray.size)=d':=by rw [← hsz]; simp
   have e2:(xs.toArray.extract 0 xs.toArray.size)=xs.toArray:=by simp
   rw [e1,e2] at hperm
   simpa using hperm
  refine ⟨(lsE r (d'.toList.flatMap Chg.cells++cur.drop (d'.toList.flatMap Chg.cells).length) 49,d'.toList),⟨hperm',?_,?_⟩,rfl,?_⟩
  ·rw [List.pairwise_iff_getElem]
   intro i j hi hj hij
   have h1:=hs i j (Nat.zero_le _) hij (by rw [← hsz]; simpa using hj)
   have hi':i < d'.size:=by simpa using hi
   have hj':j < d'.size:=by simpa using hj
   rw [getElem!_pos d' i hi',getElem!_pos d' j hj'] at h1
   unfold ltOf Lib.compareInt at h1
   simp only [Array.getElem_toList]
   by_cases h2:(d'[j]).d < (d'[i]).d
   ·simp [h2] at h1
   ·omega
  ·have hl2:(d'.toList.flatMap Chg.cells).length=xs.length*5:=by rw [Il (f:=Chg.cells) (n:=5) (fun _=>rfl),hdl]
   refine .row hc hm ?_ ?_
   ·rw [List.length_append,List.length_drop,hl2,hl]
    have:xs.length*5≤cap*5:=Nat.mul_le_mul_right _ hc
    omega
   ·rw [← hl2,List.take_left]
  ·have:=WSat.putRowV hw (ds:=d'.toList.flatMap Chg.cells) (by rw [Il (f:=Chg.cells) (n:=5) (fun _=>rfl),hdl,hl]; exact Nat.mul_le_mul_right _ hc) q os
   rw [← flatK_eq (enc:=Chg.cells) (k:=5) (fun _=>rfl),hd] at this
   exact this
end Go.Chx
