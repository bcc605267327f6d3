/- Part of the proof that the law CommitsMembers holds. -/
import Derived.Test.YtegbaopejhpnkaaGreatDoorAa
import Derived.Test.YtegbaopejhpnkaaGreatDoorAh
import Derived.Test.YtegbaopejhpnkaaGreatDoorAz
namespace Go.Chx
open Go Go.Proofs
set_option maxHeartbeats 1000000
set_option maxRecDepth 4000
theorem Gv (l:List RV) (a:Option Addr) (n cap:Nat) (hn:l.length=n):Ay Tryz.prog 77 [.slice a n cap] [] (fun _=>True) (fun _:Unit=>⟨True,vA (.list l a cap),[],fun _=>True⟩):=by
 refine Aj Tryz.func77 Z Z fun X w0=>?_
 subst hn
 exact Ab (Aa (oj (C7 Z Cc (fun r2=>(on (qn (Ab (Aa (oj (mv Z Z (oj (bld Z J7 (Ch Z Z (.head Z) (Ch Z Z (.tail (.tail (.tail (.head Z)))) .nil)) (oj (C0 Z Z Bi Z Z .head (on (qn (Af (As () Z (.cellW Z Bi (.head _) Z .nil) Z tR (Bl _) (fun w h=>tR) (.inl Z)))))))))))))))))))
theorem E6 (n:Int):Ay Tryz.prog 106 [iv n] [] (fun _=>True) (fun _:Unit=>⟨True,vA (D6 n),[],fun _=>True⟩):=by
 exact Aj Tryz.func106 Z Z fun X w0=>(Ab (Aa (oj (C7 Z Cc (fun r2=>(on (qn (Ab (Aa (oj (mv Z Z (oj (bld Z J7 (Ch Z Z (.head Z) (Ch Z Z (.tail (.head Z)) .nil)) (oj (C0 Z Z Bi Z Z .head (on (qn (Af (As () Z (.cellW Z Bi (.head _) Z .nil) Z tR (Bl _) (fun w h=>tR) (.inl Z))))))))))))))))))))
theorem ftext_spec (s:List UInt8):Ay Tryz.prog 155 [.string (Iq s)] [] (fun _=>True) (fun _:Unit=>⟨True,vA (rvT s),[],fun _=>True⟩):=by
 exact Aj Tryz.func155 Z Z fun X w0=>(Ab (Aa (oj (C7 Z Cc (fun r2=>(on (qn (Ab (Aa (oj (mv Z Z (oj (bld Z J7 (Ch Z Z (.head Z) (Ch Z Z (.tail (.tail (.head Z))) .nil)) (oj (C0 Z Z Bi Z Z .head (on (qn (Af (As () Z (.cellW Z Bi (.head _) Z .nil) Z tR (Bl _) (fun w h=>tR) (.inl Z))))))))))))))))))))
theorem fdig_spec (d:Dig):Ay Tryz.prog 156 [dv d] [] (fun _=>True) (fun _:Unit=>⟨True,vA (rvT d.b),[],fun _=>True⟩):=by
 refine Aj Tryz.func156 Z Z fun X w0=>(Ab (Aa (oj (Gx Z Z (fun r1=>(Al (Am 0 _ _ Z) ?_))))))
 try dsimp only [List.eraseIdx]
 exact oj (C7 Z Cc (fun r2=>(on (qn (Ab (Aa (oj (slp Z Z Tryz.underlying23 Bv Z Z (.inl Z) Z (Ac (d:=3) (v:=.slice (some ⟨r1,0,none⟩) d.b.length d.b.length) Z (by simp [Addr.add,d.h]) (oj (cvbs Z Z Tryz.underlying53 Tryz.underlying9 Tryz.underlying5 (fun w ho h=>Bc.dig (h.1.1) Z) (oj (Ao Z Z (.cons Z .nil) fb_155 (ftext_spec _)  (fun w h=>tR) Z (fun _=>(Ae (fun w h=>h.2) (oj (C0 Z Z Bi Z Z .head (on (qn (Af (As () Z (.cellW Z Bi (.head _) Z .nil) Z tR (Bl _) (fun w h=>tR) (.inl Z))))))))))))))))))))))
theorem fints_spec (a:Option Addr) (n cap:Nat) (xs:List Int) (hn:xs.length=n) (hn2:n≤1000000):Ay Tryz.prog 154 [.slice a n cap] [] (fun w=>Sl 1 n (xs.flatMap (fun x=>[iv x])) (.slice a n cap) w∧True) (fun x:Option Addr × Nat=>⟨n≤x.2,vA (.list (xs.map D6) x.1 x.2),[],fun w=>Sl 4 n ((xs.map D6).flatMap RV.cells) (.slice x.1 n x.2) w∧True⟩):=by
 refine Aj Tryz.func154 Z Z fun X w0=>(Cx (Ab (Aa (oj (C7 Z Cc (fun r2=>(on (qn (Ab (Aa (oj (bld Z J7 (Ch Z Z (.head Z) .nil) (oj (C7 Z Cc (fun r3=>(oj (C0 Z Z Bi Z Z .head (on (qn (Ab (Ab ?_)))))))))))))))))))))
 refine Aa (oj (Ak Z Z (on (qn (Ag (Aw (fun (sT:(Nat) × (Option Addr) × (Nat) × (A9))=>(⟨sT.1≤n∧Own 61 4 (.slice sT.2.1 sT.1 sT.2.2.1) sT.1 (((xs.take sT.1).map D6).flatMap RV.cells) sT.2.2.2,[(0,.slice a n cap),(2,Bg r2 0),(3,Bg r3 0),(4,iv (sT.1:Int))],[bx r3 [S1 (iv 3),S1 (iv 0),S1 (.string ByteArray.empty),S1 (.slice sT.2.1 sT.1 sT.2.2.1)] 61,bx r2 z_61 61,sT.2.2.2],fun w=>Sl 1 n (xs.flatMap (fun x=>[iv x])) (.slice a n cap) w∧True,n-sT.1⟩:Hd)) (0,none,0,none) (⟨Nat.zero_le _,.nil⟩) (⟨Z,Z,Z,Z,tR⟩) (.refl _) (fun w h=>⟨(h.1),tR⟩) ?_))))))
 rintro ⟨i,va,vc,en⟩ ⟨hi,ho⟩
 try dsimp only
 try dsimp only at hi ho
 refine Ab (Ab (Aa (oj (mv Z Z (oj (mv Z Z (oj (Bn Z Z Tryz.underlying31 Z (oj (Dd Z Z Z (on (qn ?_))))))))))))
 refine A8 Z (fun ht=>?_) (fun hf=>?_)
 ·obtain ⟨x,hx⟩:∃ x,xs[i]? = some x:=⟨_,List.getElem?_eq_getElem (by omega)⟩
  refine Ah (qn (Ab (Ag (A5 mo (A3 [0,1,2,3,4,5,6,7] (fun j=>Nat.beq j 7) (by kernel_rfl) Z Z (.det _ (fun Q K R m k=>(A2 (o':=3) Z Z Cd B3 Z k)) (.det _ (fun Q K R m k=>(Bh Z Z B3 (.head _) (Z) k)) (.det _ (fun Q K R m k=>(mv Z Z k)) (.det _ (fun Q K R m k=>(mv Z Z k)) (.det _ (fun Q K R m k=>(Fc Z Z Z Tryz.underlying31 Ai (by omega) (fun w h=>Sl.some (h.1.1) (by omega)) k)) (.det _ (fun Q K R m k=>(A4 Z Z Ai (fun w h=>Sl.elem1 (h.1.1) (Dh hx)) k)) (.det _ (fun Q K R m k=>(Ao Z Z (.cons Z .nil) Jn (E6 x)  (fun w h=>tR) Z (fun _=>Ae (fun w h=>h.2) k))) (.gh (γ:=Nat) (fun _=>True) _ _ _ Z (fun Q K R k=>(F7 Z Tryz.underlying59 Bi Cc (.agg (s:=vS (D6 x)) Z .nil) (by repeat (first | exact List.forall_mem_nil _ | refine List.forall_mem_cons.2 ⟨rfl,?_⟩)) Z (by decide) Z (fun r19=>Al (.refl _) (Ae (fun w h=>⟨⟨h.1,h.2.1⟩,h.2.2⟩) (k r19 tR))))) (fun _=>by exact ⟨[],by simp⟩) ?_)))))))))))))
  rintro r19 _
  try dsimp only [List.nil_append,List.cons_append]
  refine .nil (Ad 8 ((Ku Z Z Z el_59 (by kernel_rfl) ho (i:=2) Z (fun w ho h=>Bc.src (h.1.1) Z) (by omega) (by simp only [maxLen]; omega) (fun v20 e20 ho20=>?_))))
  try dsimp only [List.set]
  obtain ⟨va20,vc20,hv20,hc20⟩:=ho20.shape'
  subst hv20
  exact Ad 9 ((A2 (o':=3) Z Z Cd B3 Z (Ad 10 ((Cr Z Z B3 Z .head (.tail (.tail (.tail (.head Z)))) Z (A6 (bn (qn (Aa (oj (mv Z Z (oj (add Z Z Z (by omega) (oj (Ak Z Z (on (qn (Ar (i+1,va20,vc20,e20) (by dsimp only; omega) (⟨by (try dsimp only); omega,by rw [A7 hx,List.map_append,List.map_singleton,Dj]; exact ho20⟩) (⟨Z,Z,Z,Z,tR⟩) (.refl _) (fun w h=>⟨(h.2.1),tR⟩)))))))))))))))))))
 ·have h4:i=n:=by omega
  subst h4
  rw [List.take_of_length_le (by omega)] at ho
  refine A1 (qe (qe (be (qn (Ab (Aa (oj (Eb Z Z Bi (.head _) Z (oj (C0 Z Z Bi Z Z (.tail .head) (on (qn (Af ?_)))))))))))))
  have hcv:i≤vc:=by
   obtain ⟨_,_,e,h⟩:=ho.shape'
   cases e
   exact h
  have hml:(xs.map D6).length=i:=by rw [List.length_map]; exact hn
  refine By (i:=2) Z ho (Do Jp _) ?_
  try dsimp only [List.eraseIdx]
  exact As (va,vc) Z (.cellW Z Bi (.tail _ (.head _)) Z .nil) (by show av [S1 (iv 3),S1 (iv 0),S1 (.string ByteArray.empty),S1 (.slice va i vc)]=av [S1 (iv 3),S1 (iv 0),S1 (.string ByteArray.empty),S1 (.slice va (xs.map D6).length vc)]; rw [hml]) hcv (Bl _) (fun w h=>⟨(h.1.1),tR⟩) (.inl Z)
theorem fcont_spec (c:Cm) (hb:CmB c):Ay Tryz.prog 78 [av c.segs] [] (fun w=>CF1 c w∧CF2 c w∧CF3 c w∧CF4 c w∧CF5 c w∧CF6 c w∧True) (fun x:List RV × Option Addr × Nat=>⟨vals x.1=Cb c∧x.1.length=11∧11≤x.2.2,.slice x.2.1 11 x.2.2,[],fun w=>Sl 4 11 (x.1.flatMap RV.cells) (.slice x.2.1 11 x.2.2) w∧Bo x.1 w∧True⟩):=by
 refine Aj Tryz.func78 Z Z fun X w0=>?_
 obtain ⟨hb1,hb2,hb3,hb4⟩:=hb
 refine Ab (Aa (oj (C6 Z Z (fun r1=>(Al (Am 0 _ _ Z) ?_)))))
 try dsimp only [List.eraseIdx]
 refine oj (Ak Z Z (on (qn (Ab (Aa (oj (F7 Z Tryz.underlying59 Bi Cc .nil (by repeat (first | exact List.forall_mem_nil _ | refine List.forall_mem_cons.2 ⟨rfl,?_⟩)) Z (by decide) Z (fun r12=>?_))))))))
 refine oj (Ak Z Z (on (qn (Ab (Ab (Aa (oj (Ak Z Z (on (qn (Ag (Aw (fun (sT:(Nat) × (Option Addr) × (Nat) × (A9) × (List RV))=>(⟨sT.1≤c.ch.length∧Own 61 4 (.slice sT.2.1 sT.1 sT.2.2.1) sT.1 (sT.2.2.2.2.flatMap RV.cells) sT.2.2.2.1∧vals sT.2.2.2.2=(c.ch.take sT.1).map chgV∧sT.2.2.2.2.length=sT.1,[(1,Bg r1 0),(3,.slice sT.2.1 sT.1 sT.2.2.1),(4,iv (sT.1:Int))],[sT.2.2.2.1],fun w=>CF1 c w∧CF2 c w∧CF3 c w∧CF4 c w∧CF5 c w∧CF6 c w∧Bc r1 c.segs 37 w∧Bo sT.2.2.2.2 w∧True,c.ch.length-sT.1⟩:Hd)) (0,some ⟨r12,0,none⟩,0,_,[]) (⟨Nat.zero_le _,(Own.row (e:=61) (sz:=4) (g:=r12) (n:=0) (cap:=0) (cur:=[]) (xs:=[]) (Nat.le_refl _) (by decide) Z Z),Z,Z⟩) (⟨Z,Z,Z,tR⟩) (.refl _) (fun w h=>⟨(h.2.1),(h.2.2.1),(Cu h),(Dw h),(Ez h),(Ec h),(h.1.1),tR,tR⟩) ?_))))))))))))
 rintro ⟨i1,va1,vc1,e1,rs1⟩ ⟨hi1,ho1,hv1,hl1⟩
 try dsimp only
 try dsimp only at hi1 ho1 hv1 hl1
 refine Ab (Ab (Aa (oj (mv Z Z (oj (A2 (o':=35) Z Z Es Et Z (oj (A4 Z Z Et (fun w h=>Bc.at1 (Ec h) Z) (oj (Bn Z Z Tryz.underlying30 Z (oj (Dd Z Z Z (on (qn ?_))))))))))))))
 refine A8 Z (fun ht=>?_) (fun hf=>?_)
 ·obtain ⟨x,hx⟩:∃ x,c.ch[i1]? = some x:=⟨_,List.getElem?_eq_getElem (by omega)⟩
  refine Ah (qn (Ab (Ag (Ab (Aa (oj (A2 (o':=35) Z Z Es Et Z (oj (A4 Z Z Et (fun w h=>Bc.at1 (Ec h) Z) (oj (mv Z Z (oj (Fc Z Z Z Tryz.underlying30 Cp (by omega) (fun w h=>Sl.some (h.1) (by omega)) (oj (D4 Z Z Cp Z (fun w h=>Cv (h.1) (by decide) (fun _=>Z) hx) (Ac (d:=24) (v:=av x.segs) Z Z (oj (C7 Z Fv (fun r5=>(oj (C0 Z Z Cp Z Z .head (on (qn ?_)))))))))))))))))))))))
  refine Aa (oj (mv Z Z (oj (A2 (o':=0) Z Z F0 Ai Z (oj (Bh Z Z Ai (.head _) (Z) (oj (A2 (o':=1) Z Z Ds Ai Z (oj (Bh Z Z Ai (.head _) (Z) (oj (A2 (o':=2) Z Z Kk Ai Z (oj (Bh Z Z Ai (.head _) (Z) (oj (A2 (o':=3) Z Z H6 Ai Z (oj (Bh Z Z Ai (.head _) (Z) (oj (A2 (o':=4) Z Z fld_49_4 Ai Z (oj (Bh Z Z Ai (.head _) (Z) (oj (F7 Z Tryz.underlying31 Ai Gd (C3 (v:=iv x.k) Z Z (C3 (v:=iv x.d) Z Z (C3 (v:=iv x.p) Z Z (C3 (v:=iv x.v) Z Z (C3 (v:=iv x.c) Z Z .nil))))) (by repeat (first | exact List.forall_mem_nil _ | refine List.forall_mem_cons.2 ⟨rfl,?_⟩)) Z (by decide) Z (fun r36=>?_)))))))))))))))))))))))))
  refine Al (Am 0 _ _ Z) ?_
  try dsimp only [List.eraseIdx]
  refine oj (call Z Z (.cons Z .nil) fb_154 (fints_spec (some ⟨r36,0,none⟩) 5 5 x.ints Z (by decide))  (fun w h=>⟨Bc.rows (h.1.1) Z Z,tR⟩) ?_)
  rintro ⟨a37,c37⟩ hc37
  try dsimp only at hc37
  try dsimp only
  refine oj (F7 Z Tryz.underlying59 Bi Cc (.agg (s:=vS (.list (x.ints.map D6) a37 c37)) Z .nil) (by repeat (first | exact List.forall_mem_nil _ | refine List.forall_mem_cons.2 ⟨rfl,?_⟩)) Z (by decide) Z (fun r38=>?_))
  refine Al (Am 0 _ _ Z) ?_
  try dsimp only [List.eraseIdx]
  refine oj (Ku Z Z Z el_59 (by kernel_rfl) ho1 (i:=1) Z (fun w ho h=>Bc.src (h.1.1) Z) (by omega) (by simp only [maxLen]; omega) (fun v39 e39 ho39=>?_))
  try dsimp only [List.set]
  obtain ⟨va39,vc39,hv39,hc39⟩:=ho39.shape'
  subst hv39
  exact oj (Ak Z Z (on (bn (qn (Aa (oj (mv Z Z (oj (add Z Z Z (by omega) (oj (Ak Z Z (on (qn (Ar (i1+1,va39,vc39,e39,rs1++[.list (x.ints.map D6) a37 c37]) (by dsimp only; omega) (⟨by (try dsimp only); omega,by rw [Dj]; exact ho39,by rw [Hn,hv1,A7 hx,List.map_append]; rfl,by simp [hl1]⟩) (⟨Z,Z,Z,tR⟩) (.cons _ (.refl _)) (fun w h=>⟨(Cu h),(Dw h),(Ez h),(Ec h),(Fg h),(Gg h),(Io h),Bo.app (Ew h) (Bo.one (by simp only [Cw]; exact ⟨by simpa using (h.2.1.1),Bo.of (by simp [Cw])⟩)),tR⟩)))))))))))))))
 ·have h4:i1=c.ch.length:=by omega
  subst h4
  rw [List.take_length] at hv1
  refine A1 (qe (qe (be (qn (Ab (Aa (By (i:=0) Z ho1 (Do Jp _) ?_)))))))
  try dsimp only [List.eraseIdx]
  refine oj (F7 Z Tryz.underlying59 Bi Cc .nil (by repeat (first | exact List.forall_mem_nil _ | refine List.forall_mem_cons.2 ⟨rfl,?_⟩)) Z (by decide) Z (fun r40=>?_))
  refine oj (Ak Z Z (on (qn (Ab (Ab (Aa (oj (Ak Z Z (on (qn (Ag (Aw (fun (sT:(Nat) × (Option Addr) × (Nat) × (A9) × (List RV))=>(⟨sT.1≤c.bx.length∧Own 61 4 (.slice sT.2.1 sT.1 sT.2.2.1) sT.1 (sT.2.2.2.2.flatMap RV.cells) sT.2.2.2.1∧vals sT.2.2.2.2=(c.bx.take sT.1).map bxxV∧sT.2.2.2.2.length=sT.1,[(1,Bg r1 0),(3,.slice va1 c.ch.length vc1),(6,.slice sT.2.1 sT.1 sT.2.2.1),(7,iv (sT.1:Int))],[sT.2.2.2.1],fun w=>CF1 c w∧CF2 c w∧CF3 c w∧CF4 c w∧CF5 c w∧CF6 c w∧Bc r1 c.segs 37 w∧Sl 4 c.ch.length (rs1.flatMap RV.cells) (.slice va1 c.ch.length vc1) w∧Bo rs1 w∧Bo sT.2.2.2.2 w∧True,c.bx.length-sT.1⟩:Hd)) (0,some ⟨r40,0,none⟩,0,_,[]) (⟨Nat.zero_le _,(Own.row (e:=61) (sz:=4) (g:=r40) (n:=0) (cap:=0) (cur:=[]) (xs:=[]) (Nat.le_refl _) (by decide) Z Z),Z,Z⟩) (⟨Z,Z,Z,Z,tR⟩) (.refl _) (fun w h=>⟨(h.2.1),(h.2.2.1),(Cu h),(Dw h),(Ez h),(Ec h),(Fg h),(h.1.1),(Gg h),tR,tR⟩) ?_))))))))))))
  rintro ⟨i2,va2,vc2,e2,rs2⟩ ⟨hi2,ho2,hv2,hl2⟩
  try dsimp only
  try dsimp only at hi2 ho2 hv2 hl2
  refine Ab (Ab (Aa (oj (mv Z Z (oj (A2 (o':=37) Z Z D7 Db Z (oj (A4 Z Z Db (fun w h=>Bc.at1 (Ec h) Z) (oj (Bn Z Z Tryz.underlying32 Z (oj (Dd Z Z Z (on (qn ?_))))))))))))))
  refine A8 Z (fun ht=>?_) (fun hf=>?_)
  ·obtain ⟨x,hx⟩:∃ x,c.bx[i2]? = some x:=⟨_,List.getElem?_eq_getElem (by omega)⟩
   refine Ah (qn (Ab (Ag (Ab (Aa (oj (A2 (o':=37) Z Z D7 Db Z (oj (A4 Z Z Db (fun w h=>Bc.at1 (Ec h) Z) (oj (mv Z Z (oj (Fc Z Z Z Tryz.underlying32 E1 (by omega) (fun w h=>Sl.some (h.2.2.1) (by omega)) (oj (D4 Z Z E1 Z (fun w h=>Cv (h.2.2.1) (by decide) (fun _=>Z) hx) (Ac (d:=52) (v:=av x.segs) Z Z (oj (C7 Z I9 (fun r8=>(oj (C0 Z Z E1 Z Z .head (on (qn ?_)))))))))))))))))))))))
   refine A5 mo (A3 [0,1,2,3,4,5,6,7,8,9,10,11,12,13,14,15,16,17,18] (fun j=>Nat.beq j 16 || Nat.beq j 18) (by kernel_rfl) Z Z (.det _ (fun Q K R m k=>(mv Z Z k)) (.det _ (fun Q K R m k=>(A2 (o':=0) Z Z Hc Ai Z k)) (.det _ (fun Q K R m k=>(Bh Z Z Ai (.head _) (Z) k)) (.det _ (fun Q K R m k=>(Ao Z Z (.cons Z .nil) Jn (E6 x.n)  (fun w h=>tR) Z (fun _=>Ae (fun w h=>h.2) k))) (.det _ (fun Q K R m k=>(A2 (o':=1) Z Z Hb Ai Z k)) (.det _ (fun Q K R m k=>(Bh Z Z Ai (.head _) (Z) k)) (.det _ (fun Q K R m k=>(Ao Z Z (.cons Z .nil) Jn (E6 x.lv)  (fun w h=>tR) Z (fun _=>Ae (fun w h=>h.2) k))) (.det _ (fun Q K R m k=>(A2 (o':=2) Z Z Fi Ct Z k)) (.det _ (fun Q K R m k=>(A2 (o':=2) Z Z Kj Ai Z k)) (.det _ (fun Q K R m k=>(Bh Z Z Ai (.head _) (Z) k)) (.det _ (fun Q K R m k=>(Ao Z Z (.cons Z .nil) Jn (E6 x.u)  (fun w h=>tR) Z (fun _=>Ae (fun w h=>h.2) k))) (.det _ (fun Q K R m k=>(A2 (o':=2) Z Z Fi Ct Z k)) (.det _ (fun Q K R m k=>(A2 (o':=3) Z Z H5 Bt Z k)) (.det _ (fun Q K R m k=>(Bh Z Z Bt (.head _) (Z) k)) ?_)))))))))))))))
   refine .det _ (fun Q K R m k=>(cvbs Z Z Tryz.underlying53 Tryz.underlying9 Tryz.underlying5 (fun w ho h=>(Cu h.1) x (List.mem_of_getElem? hx)) k)) (.det _ (fun Q K R m k=>(Ao Z Z (.cons Z .nil) fb_155 (ftext_spec x.b)  (fun w h=>tR) Z (fun _=>Ae (fun w h=>h.2) k))) (.gh (γ:=Nat) (fun _=>True) _ _ _ Z (fun Q K R k=>(F7 Z Tryz.underlying59 Bi Cc (.agg (s:=vS (D6 x.n)) Z (.agg (s:=vS (D6 x.lv)) Z (.agg (s:=vS (D6 x.u)) Z (.agg (s:=vS (rvT x.b)) Z .nil)))) (by repeat (first | exact List.forall_mem_nil _ | refine List.forall_mem_cons.2 ⟨rfl,?_⟩)) Z (by decide) Z (fun r69=>Al (.refl _) (Ae (fun w h=>⟨⟨h.1,h.2.1⟩,h.2.2⟩) (k r69 tR))))) (fun _=>by exact ⟨[],by simp⟩) ?_))
   rintro r69 _
   try dsimp only [List.nil_append,List.cons_append]
   refine .det _ (fun Q K R m k=>(Ao Z Z (.cons Z .nil) fb_77 (Gv [D6 x.n,D6 x.lv,D6 x.u,rvT x.b] (some ⟨r69,0,none⟩) 4 4 Z)  (fun w h=>tR) Z (fun _=>Ae (fun w h=>h.2) k))) (.gh (γ:=Nat) (fun _=>True) _ _ _ Z (fun Q K R k=>(F7 Z Tryz.underlying59 Bi Cc (.agg (s:=vS (.list [D6 x.n,D6 x.lv,D6 x.u,rvT x.b] (some ⟨r69,0,none⟩) 4)) Z .nil) (by repeat (first | exact List.forall_mem_nil _ | refine List.forall_mem_cons.2 ⟨rfl,?_⟩)) Z (by decide) Z (fun r71=>Al (.refl _) (Ae (fun w h=>⟨⟨h.1,h.2.1⟩,h.2.2⟩) (k r71 tR))))) (fun _=>by exact ⟨[],by simp⟩) ?_)
   rintro r71 _
   try dsimp only [List.nil_append,List.cons_append]
   refine .nil (Ad 19 ((Ku Z Z Z el_59 (by kernel_rfl) ho2 (i:=1) Z (fun w ho h=>Bc.src (h.1.1) Z) (by omega) (by simp only [maxLen]; omega) (fun v72 e72 ho72=>?_))))
   try dsimp only [List.set]
   obtain ⟨va72,vc72,hv72,hc72⟩:=ho72.shape'
   subst hv72
   exact Ad 20 ((Ak Z Z (A6 (bn (qn (Aa (oj (mv Z Z (oj (add Z Z Z (by omega) (oj (Ak Z Z (on (qn (Ar (i2+1,va72,vc72,e72,rs2++[.list [D6 x.n,D6 x.lv,D6 x.u,rvT x.b] (some ⟨r69,0,none⟩) 4]) (by dsimp only; omega) (⟨by (try dsimp only); omega,by rw [Dj]; exact ho72,by rw [Hn,hv2,A7 hx,List.map_append]; rfl,by simp [hl2]⟩) (⟨Z,Z,Z,Z,tR⟩) (.cons _ (.refl _)) (fun w h=>⟨(h.2.2.1),(Cu h),(Dw h),(Ez h),(Ec h),(Fg h),(Gg h),(Io h),(Ew h),Bo.app (Fh h) (Bo.one (by simp only [Cw]; exact ⟨Bc.rows (h.2.1.1) rfl rfl,Bo.of (by simp [Cw])⟩)),tR⟩))))))))))))))))
  ·have h4:i2=c.bx.length:=by omega
   subst h4
   rw [List.take_length] at hv2
   refine A1 (qe (qe (be (qn (Ab (Aa (By (i:=0) Z ho2 (Do Jp _) ?_)))))))
   try dsimp only [List.eraseIdx]
   refine oj (F7 Z Tryz.underlying59 Bi Cc .nil (by repeat (first | exact List.forall_mem_nil _ | refine List.forall_mem_cons.2 ⟨rfl,?_⟩)) Z (by decide) Z (fun r73=>?_))
   refine oj (Ak Z Z (on (qn (Ab (Ab (Aa (oj (Ak Z Z (on (qn (Ag (Aw (fun (sT:(Nat) × (Option Addr) × (Nat) × (A9) × (List RV))=>(⟨sT.1≤c.wl.length∧Own 61 4 (.slice sT.2.1 sT.1 sT.2.2.1) sT.1 (sT.2.2.2.2.flatMap RV.cells) sT.2.2.2.1∧vals sT.2.2.2.2=(c.wl.take sT.1).map J5∧sT.2.2.2.2.length=sT.1,[(1,Bg r1 0),(3,.slice va1 c.ch.length vc1),(6,.slice va2 c.bx.length vc2),(9,.slice sT.2.1 sT.1 sT.2.2.1),(10,iv (sT.1:Int))],[sT.2.2.2.1],fun w=>CF1 c w∧CF2 c w∧CF3 c w∧CF4 c w∧CF5 c w∧CF6 c w∧Bc r1 c.segs 37 w∧Sl 4 c.ch.length (rs1.flatMap RV.cells) (.slice va1 c.ch.length vc1) w∧Bo rs1 w∧Sl 4 c.bx.length (rs2.flatMap RV.cells) (.slice va2 c.bx.length vc2) w∧Bo rs2 w∧Bo sT.2.2.2.2 w∧True,c.wl.length-sT.1⟩:Hd)) (0,some ⟨r73,0,none⟩,0,_,[]) (⟨Nat.zero_le _,(Own.row (e:=61) (sz:=4) (g:=r73) (n:=0) (cap:=0) (cur:=[]) (xs:=[]) (Nat.le_refl _) (by decide) Z Z),Z,Z⟩) (⟨Z,Z,Z,Z,Z,tR⟩) (.refl _) (fun w h=>⟨(h.2.1),(h.2.2.1),(Cu h),(Dw h),(Ez h),(Ec h),(Fg h),(Gg h),(Io h),(h.1.1),(Ew h),tR,tR⟩) ?_))))))))))))
   rintro ⟨i3,va3,vc3,e3,rs3⟩ ⟨hi3,ho3,hv3,hl3⟩
   try dsimp only
   try dsimp only at hi3 ho3 hv3 hl3
   refine Ab (Ab (Aa (oj (mv Z Z (oj (A2 (o':=38) Z Z D2 D5 Z (oj (A4 Z Z D5 (fun w h=>Bc.at1 (Ec h) Z) (oj (Bn Z Z Tryz.underlying33 Z (oj (Dd Z Z Z (on (qn ?_))))))))))))))
   refine A8 Z (fun ht=>?_) (fun hf=>?_)
   ·obtain ⟨x,hx⟩:∃ x,c.wl[i3]? = some x:=⟨_,List.getElem?_eq_getElem (by omega)⟩
    refine Ah (qn (Ab (Ag (Ab (Aa (oj (A2 (o':=38) Z Z D2 D5 Z (oj (A4 Z Z D5 (fun w h=>Bc.at1 (Ec h) Z) (oj (mv Z Z (oj (Fc Z Z Z Tryz.underlying33 Gk (by omega) (fun w h=>Sl.some (Dw h) (by omega)) (oj (D4 Z Z Gk Z (fun w h=>Cv (Dw h) (by decide) (fun _=>Z) hx) (Ac (d:=85) (v:=av x.segs) Z Z (oj (C7 Z zok_87 (fun r11=>(oj (C0 Z Z Gk Z Z .head (on (qn ?_)))))))))))))))))))))))
    refine A5 mo (A3 [0,1,2,3,4,5,6,7,8,9,10,11,12,13,14,15] (fun j=>Nat.beq j 13 || Nat.beq j 15) (by kernel_rfl) Z Z (.det _ (fun Q K R m k=>(mv Z Z k)) (.det _ (fun Q K R m k=>(A2 (o':=0) Z Z Ki Ai Z k)) (.det _ (fun Q K R m k=>(Bh Z Z Ai (.head _) (Z) k)) (.det _ (fun Q K R m k=>(Ao Z Z (.cons Z .nil) Jn (E6 x.d)  (fun w h=>tR) Z (fun _=>Ae (fun w h=>h.2) k))) (.det _ (fun Q K R m k=>(A2 (o':=1) Z Z E4 Ct Z k)) (.det _ (fun Q K R m k=>(A2 (o':=1) Z Z Kj Ai Z k)) (.det _ (fun Q K R m k=>(Bh Z Z Ai (.head _) (Z) k)) (.det _ (fun Q K R m k=>(Ao Z Z (.cons Z .nil) Jn (E6 x.u)  (fun w h=>tR) Z (fun _=>Ae (fun w h=>h.2) k))) (.det _ (fun Q K R m k=>(A2 (o':=1) Z Z E4 Ct Z k)) (.det _ (fun Q K R m k=>(A2 (o':=2) Z Z H5 Bt Z k)) (.det _ (fun Q K R m k=>(Bh Z Z Bt (.head _) (Z) k)) (.det _ (fun Q K R m k=>(cvbs Z Z Tryz.underlying53 Tryz.underlying9 Tryz.underlying5 (fun w ho h=>(Ez h.1) x (List.mem_of_getElem? hx)) k)) (.det _ (fun Q K R m k=>(Ao Z Z (.cons Z .nil) fb_155 (ftext_spec x.b)  (fun w h=>tR) Z (fun _=>Ae (fun w h=>h.2) k))) (.gh (γ:=Nat) (fun _=>True) _ _ _ Z (fun Q K R k=>(F7 Z Tryz.underlying59 Bi Cc (.agg (s:=vS (D6 x.d)) Z (.agg (s:=vS (D6 x.u)) Z (.agg (s:=vS (rvT x.b)) Z .nil))) (by repeat (first | exact List.forall_mem_nil _ | refine List.forall_mem_cons.2 ⟨rfl,?_⟩)) Z (by decide) Z (fun r99=>Al (.refl _) (Ae (fun w h=>⟨⟨h.1,h.2.1⟩,h.2.2⟩) (k r99 tR))))) (fun _=>by exact ⟨[],by simp⟩) ?_)))))))))))))))
    rintro r99 _
    try dsimp only [List.nil_append,List.cons_append]
    refine .det _ (fun Q K R m k=>(Ao Z Z (.cons Z .nil) fb_77 (Gv [D6 x.d,D6 x.u,rvT x.b] (some ⟨r99,0,none⟩) 3 3 Z)  (fun w h=>tR) Z (fun _=>Ae (fun w h=>h.2) k))) (.gh (γ:=Nat) (fun _=>True) _ _ _ Z (fun Q K R k=>(F7 Z Tryz.underlying59 Bi Cc (.agg (s:=vS (.list [D6 x.d,D6 x.u,rvT x.b] (some ⟨r99,0,none⟩) 3)) Z .nil) (by repeat (first | exact List.forall_mem_nil _ | refine List.forall_mem_cons.2 ⟨rfl,?_⟩)) Z (by decide) Z (fun r101=>Al (.refl _) (Ae (fun w h=>⟨⟨h.1,h.2.1⟩,h.2.2⟩) (k r101 tR))))) (fun _=>by exact ⟨[],by simp⟩) ?_)
    rintro r101 _
    try dsimp only [List.nil_append,List.cons_append]
    refine .nil (Ad 16 ((Ku Z Z Z el_59 (by kernel_rfl) ho3 (i:=1) Z (fun w ho h=>Bc.src (h.1.1) Z) (by omega) (by simp only [maxLen]; omega) (fun v102 e102 ho102=>?_))))
    try dsimp only [List.set]
    obtain ⟨va102,vc102,hv102,hc102⟩:=ho102.shape'
    subst hv102
    exact Ad 17 ((Ak Z Z (A6 (bn (qn (Aa (oj (mv Z Z (oj (add Z Z Z (by omega) (oj (Ak Z Z (on (qn (Ar (i3+1,va102,vc102,e102,rs3++[.list [D6 x.d,D6 x.u,rvT x.b] (some ⟨r99,0,none⟩) 3]) (by dsimp only; omega) (⟨by (try dsimp only); omega,by rw [Dj]; exact ho102,by rw [Hn,hv3,A7 hx,List.map_append]; rfl,by simp [hl3]⟩) (⟨Z,Z,Z,Z,Z,tR⟩) (.cons _ (.refl _)) (fun w h=>⟨(h.2.2.1),(Cu h),(Dw h),(Ez h),(Ec h),(Fg h),(Gg h),(Io h),(Ew h),(Fh h),(Ev h),Bo.app (Jr h) (Bo.one (by simp only [Cw]; exact ⟨Bc.rows (h.2.1.1) rfl rfl,Bo.of (by simp [Cw])⟩)),tR⟩))))))))))))))))
   ·have h4:i3=c.wl.length:=by omega
    subst h4
    rw [List.take_length] at hv3
    refine A1 (qe (qe (be (qn (Ab (By (i:=0) Z ho3 (Do Jp _) ?_))))))
    try dsimp only [List.eraseIdx]
    refine A5 mo (A3 [0,1,2,3,4,5,6,7,8,9,10,11,12,13,14,15,17,19,21,22,24,25,26,28,29,30,16,18,20,23,27] (fun j=>Nat.beq j 16) (by kernel_rfl) Z Z (.det _ (fun Q K R m k=>(A2 (o':=0) Z Z Jj Ai Z k)) (.det _ (fun Q K R m k=>(A4 Z Z Ai (fun w h=>Bc.at1 (Fg h.1) Z) k)) (.det _ (fun Q K R m k=>(Ao Z Z (.cons Z .nil) Jn (E6 c.folder)  (fun w h=>tR) Z (fun _=>Ae (fun w h=>h.2) k))) (.det _ (fun Q K R m k=>(A2 (o':=1) Z Z Fj Ai Z k)) (.det _ (fun Q K R m k=>(A4 Z Z Ai (fun w h=>Bc.at1 (Fg h.1) Z) k)) (.det _ (fun Q K R m k=>(Ao Z Z (.cons Z .nil) Jn (E6 c.epoch)  (fun w h=>tR) Z (fun _=>Ae (fun w h=>h.2) k))) (.det _ (fun Q K R m k=>(A2 (o':=2) Z Z Kl Dc Z k)) (.det _ (fun Q K R m k=>(D4 Z Z Dc (sd _).h (fun w h=>Bc.atS (Fg h.1) Z) k)) (.det _ (fun Q K R m k=>(Ao Z Z (.cons Z .nil) fb_156 (fdig_spec c.parent)  (fun w h=>tR) Z (fun _=>Ae (fun w h=>h.2) k))) (.det _ (fun Q K R m k=>(A2 (o':=34) Z Z H8 Ai Z k)) (.det _ (fun Q K R m k=>(A4 Z Z Ai (fun w h=>Bc.at1 (Fg h.1) Z) k)) (.det _ (fun Q K R m k=>(Ao Z Z (.cons Z .nil) Jn (E6 c.author)  (fun w h=>tR) Z (fun _=>Ae (fun w h=>h.2) k))) (.det _ (fun Q K R m k=>(mv Z Z k)) (.det _ (fun Q K R m k=>(Ao Z Z (.cons Z .nil) fb_77 (Gv rs1 va1 c.ch.length vc1 hl1)  (fun w h=>tR) Z (fun _=>Ae (fun w h=>h.2) k))) ?_)))))))))))))))
    refine .det _ (fun Q K R m k=>(A2 (o':=36) Z Z Gn Eg Z k)) (.det _ (fun Q K R m k=>(A4 Z Z Eg (fun w h=>Bc.at1 (Fg h.1) Z) k)) (.det _ (fun Q K R m k=>(mv Z Z k)) (.det _ (fun Q K R m k=>(mv Z Z k)) (.det _ (fun Q K R m k=>(A2 (o':=39) Z Z fld_37_8 Dc Z k)) (.det _ (fun Q K R m k=>(D4 Z Z Dc (sd _).h (fun w h=>Bc.atS (Fg h.1) Z) k)) (.det _ (fun Q K R m k=>(A2 (o':=71) Z Z H7 In Z k)) (.det _ (fun Q K R m k=>(A2 (o':=71) Z Z H9 Ai Z k)) (.det _ (fun Q K R m k=>(A4 Z Z Ai (fun w h=>Bc.at1 (Fg h.1) Z) k)) (.det _ (fun Q K R m k=>(A2 (o':=71) Z Z H7 In Z k)) (.det _ (fun Q K R m k=>(A2 (o':=72) Z Z Km Ai Z k)) (.det _ (fun Q K R m k=>(A4 Z Z Ai (fun w h=>Bc.at1 (Fg h.1) Z) k)) (.gh _ _ _ _ Z (fun Q K R k=>call Z Z (.cons Z .nil) fb_154 (fints_spec c.pA c.path.length c.pC c.path Z (by omega))  (fun w h=>⟨(h.1.2.2.1),tR⟩) (fun x hx=>Ae (fun w h=>⟨⟨h.1,h.2.1⟩,h.2.2⟩) (k x hx))) (fun _=>by exact ⟨[],by simp⟩) ?_))))))))))))
    rintro ⟨a119,c119⟩ hc119
    try dsimp only at hc119
    try dsimp only [List.nil_append,List.cons_append]
    refine .det _ (fun Q K R m k=>(Ao Z Z (.cons Z .nil) fb_77 (Gv rs2 va2 c.bx.length vc2 hl2)  (fun w h=>tR) Z (fun _=>Ae (fun w h=>h.2) k))) (.det _ (fun Q K R m k=>(Ao Z Z (.cons Z .nil) fb_77 (Gv rs3 va3 c.wl.length vc3 hl3)  (fun w h=>tR) Z (fun _=>Ae (fun w h=>h.2) k))) (.det _ (fun Q K R m k=>(Ao Z Z (.cons Z .nil) fb_156 (fdig_spec c.confirm)  (fun w h=>tR) Z (fun _=>Ae (fun w h=>h.2) k))) (.det _ (fun Q K R m k=>(Ao Z Z (.cons Z .nil) Jn (E6 c.sr)  (fun w h=>tR) Z (fun _=>Ae (fun w h=>h.2) k))) (.nil (Ad 31 ((Ao Z Z (.cons Z .nil) Jn (E6 c.ss)  (fun w h=>tR) Z (fun _=>(Ae (fun w h=>h.2) (Ad 32 ((F7 Z Tryz.underlying59 Bi Cc (.agg (s:=vS (D6 c.folder)) Z (.agg (s:=vS (D6 c.epoch)) Z (.agg (s:=vS (rvT c.parent.b)) Z (.agg (s:=vS (D6 c.author)) Z (.agg (s:=vS (.list rs1 va1 vc1)) Z (.agg (s:=vS (.list (c.path.map D6) a119 c119)) Z (.agg (s:=vS (.list rs2 va2 vc2)) Z (.agg (s:=vS (.list rs3 va3 vc3)) Z (.agg (s:=vS (rvT c.confirm.b)) Z (.agg (s:=vS (D6 c.sr)) Z (.agg (s:=vS (D6 c.ss)) Z .nil))))))))))) (by repeat (first | exact List.forall_mem_nil _ | refine List.forall_mem_cons.2 ⟨rfl,?_⟩)) Z (by decide) Z (fun r135=>?_)))))))))))))
    refine Ad 33 ((Ak Z Z (A6 (qn (Af (Al (Am 0 _ _ Z) ?_))))))
    try dsimp only [List.eraseIdx]
    exact As ([D6 c.folder,D6 c.epoch,rvT c.parent.b,D6 c.author,.list rs1 va1 vc1,.list (c.path.map D6) a119 c119,.list rs2 va2 vc2,.list rs3 va3 vc3,rvT c.confirm.b,D6 c.sr,D6 c.ss],some ⟨r135,0,none⟩,11) Z (.tmp Z .nil) Z ⟨by simp only [vals,RV.val,vals_int,hv1,hv2,hv3]; rfl,Z,Nat.le_refl _⟩ .slnil (fun w h=>⟨Bc.rows (h.1.1) Z Z,Bo.of (by simp only [List.forall_mem_cons,Cw]; exact ⟨trivial,trivial,trivial,trivial,⟨hl1 ▸ (Ew h),(Fh h)⟩,⟨by simpa using (h.2.1.1),Bo.of (by simp [Cw])⟩,⟨hl2 ▸ (Ev h),(Jr h)⟩,⟨hl3 ▸ (h.2.2.1.1),(Ij h)⟩,trivial,trivial,trivial,by simp⟩),tR⟩) (.inl Z)
theorem Cw.lst {x:RV} {w:World} (h:Cw x w):Sl 4 x.ll.length (x.ll.flatMap RV.cells) (.slice x.ad x.ll.length x.cp) w∧Bo x.ll w:=by
 cases x with
 | int n a c=>exact ⟨Be,trivial⟩
 | text s a c=>exact ⟨Be,trivial⟩
 | list l a c=>exact h
theorem val_same {x y:RV} (h:x.val=y.val):x.kd=y.kd∧x.nn=y.nn∧x.ss=y.ss∧vals x.ll=vals y.ll:=by
 cases x <;> cases y <;> simp_all [RV.val,RV.kd,RV.nn,RV.ss,RV.ll]
theorem vals_samelen {l m:List RV} (h:vals l=vals m):l.length=m.length:=by
 have:=congrArg List.length h
 rw [Cz,Cz,List.length_map,List.length_map] at this
 exact this
theorem ll_lt {x u:RV} (h:u∈x.ll):SizeOf.sizeOf u < SizeOf.sizeOf x:=by
 cases x with
 | int n a c=>cases h
 | text s a c=>cases h
 | list l a c =>
  have:=List.sizeOf_lt_of_mem (show u∈l from h)
  simp only [RV.list.sizeOf_spec]
  omega
theorem same_step (x y:RV) (h:x.val=y.val) (hll:x.ll.length≤1000000) (ih:∀ u∈x.ll,∀ v:RV,u.val=v.val→Ay Tryz.prog 79 [vA u,vA v] [] (fun w=>Cw u w∧Cw v w∧True) (fun _:Unit=>⟨True,.bool true,[],fun _=>True⟩)):Ay Tryz.prog 79 [vA x,vA y] [] (fun w=>Cw x w∧Cw y w∧True) (fun _:Unit=>⟨True,.bool true,[],fun _=>True⟩):=by
 refine Aj Tryz.func79 Z Z fun X w0=>?_
 obtain ⟨h1,h2,h3,h4⟩:=val_same h
 have h5:=vals_samelen h4
 refine Ab (Aa (oj (C6 Z Z (fun r2=>(Al (Am 0 _ _ Z) ?_)))))
 try dsimp only [List.eraseIdx]
 refine oj (C6 Z Z (fun r3=>(Al (Am 0 _ _ Z) ?_)))
 try dsimp only [List.eraseIdx]
 refine oj (Ak Z Z (on (qn (Ab (Ab (Aa (oj (A2 (o':=0) Z Z Bq Ai Z (oj (A4 Z Z Ai (fun w h=>Bc.at1 h.2.1.1 Z) (oj (A2 (o':=0) Z Z Bq Ai Z (oj (A4 Z Z Ai (fun w h=>Bc.at1 h.1.1 Z) (oj (G2 Z Z Z (oj (mv Z Z (kj_ne (d:=11) Z (fun ht=>absurd ht (by omega)) (fun hf=>(oj (gt Z Z Z ((A2 (o':=1) Z Z Er Ai Z (oj (gt Z Z Z ?_))))))))))))))))))))))))))
 refine (A4 Z Z Ai (fun w h=>Bc.at1 h.2.1.1 Z) (oj (gt Z Z Z ((A2 (o':=1) Z Z Er Ai Z (oj (gt Z Z Z ((A4 Z Z Ai (fun w h=>Bc.at1 h.1.1 Z) (oj (gt Z Z Z ((G2 Z Z Z (oj (Df Z Z Z (oj (mv Z Z (kj_ne (d:=18) Z (fun ht=>absurd ht (by omega)) (fun hf=>(oj (gt Z Z Z ((A2 (o':=2) Z Z Eq G4 Z (oj (gt Z Z Z ((A4 Z Z G4 (fun w h=>Bc.at1 h.2.1.1 Z) (oj (gt Z Z Z ((A2 (o':=2) Z Z Eq G4 Z ?_)))))))))))))))))))))))))))))))
 refine oj (gt Z Z Z ((A4 Z Z G4 (fun w h=>Bc.at1 h.1.1 Z) (oj (gt Z Z Z ((nes Z Z Z (Ac (d:=23) (v:=.bool false) Z (by rw [h3]; simp) (oj (Df Z Z Z (oj (mv Z Z (Dn (d:=25) Z (fun ht=>absurd ht (by simp)) (fun hf=>(oj (gt Z Z Z ((A2 (o':=3) Z Z Cd B3 Z (oj (gt Z Z Z ((A4 Z Z B3 (fun w h=>Bc.at1 h.2.1.1 Z) (oj (gt Z Z Z ((Bn Z Z Tryz.underlying59 Z (oj (gt Z Z Z ((A2 (o':=3) Z Z Cd B3 Z ?_))))))))))))))))))))))))))))))
 refine oj (gt Z Z Z ((A4 Z Z B3 (fun w h=>Bc.at1 h.1.1 Z) (oj (gt Z Z Z ((Bn Z Z Tryz.underlying59 Z (oj (gt Z Z Z ((G2 Z Z Z (oj (Df Z Z Z (on (qn (C5 Z (fun ht=>absurd ht (by omega)) (fun hf=>(Ah (qn (Ab (Ab (Aa (oj (Ak Z Z ?_))))))))))))))))))))))))
 refine on (qn (Ag (Aw (fun (sT:(Nat))=>(⟨sT≤x.ll.length,[(2,Bg r2 0),(3,Bg r3 0),(5,iv (sT:Int))],[],fun w=>Cw x w∧Cw y w∧Bc r2 [S1 (iv x.kd),S1 (iv x.nn),S1 (.string (Iq x.ss)),S1 (.slice x.ad x.ll.length x.cp)] 61 w∧Bc r3 [S1 (iv y.kd),S1 (iv y.nn),S1 (.string (Iq y.ss)),S1 (.slice y.ad y.ll.length y.cp)] 61 w∧True,x.ll.length-sT⟩:Hd)) (0) (Nat.zero_le _) (⟨Z,Z,Z,tR⟩) .slnil (fun w h=>⟨(h.2.2.1),(Cu h),(h.2.1.1),(h.1.1),tR⟩) ?_)))
 rintro i hi
 try dsimp only
 refine Ab (Ab (Aa (oj (mv Z Z (oj (A2 (o':=3) Z Z Cd B3 Z (oj (A4 Z Z B3 (fun w h=>Bc.at1 h.2.2.1 Z) (oj (Bn Z Z Tryz.underlying59 Z (oj (Dd Z Z Z (on (qn ?_))))))))))))))
 refine A8 Z (fun ht=>?_) (fun hf=>?_)
 ·obtain ⟨u,hu⟩:∃ u,x.ll[i]? = some u:=⟨_,List.getElem?_eq_getElem (by omega)⟩
  obtain ⟨v,hv⟩:∃ u,y.ll[i]? = some u:=⟨_,List.getElem?_eq_getElem (by omega)⟩
  have huv:u.val=v.val:=by
   have:=congrArg (·[i]?) h4
   simp only [Cz,List.getElem?_map,hu,hv,Option.map_some,Option.some.injEq] at this
   exact this
  refine Ah (qn (Ab (Ag (Ab (A5 mo (A3 [0,1,2,3,4,5,6,7,8,9] (fun _=>false) (by kernel_rfl) Z Z (.det _ (fun Q K R m k=>(A2 (o':=3) Z Z Cd B3 Z k)) (.det _ (fun Q K R m k=>(A4 Z Z B3 (fun w h=>Bc.at1 h.1.2.2.1 Z) k)) (.det _ (fun Q K R m k=>(mv Z Z k)) (.det _ (fun Q K R m k=>(Fc Z Z Z Tryz.underlying59 Bi (by omega) (fun w h=>Sl.some ((Cw.lst (h.1.1)).1) (by omega)) k)) (.det (vA u) (fun Q K R m k=>(D4 Z Z Bi Z (fun w h=>Cv ((Cw.lst (h.1.1)).1) (by decide) (fun _=>Z) hu) (B8 (Z) k))) (.det _ (fun Q K R m k=>(A2 (o':=3) Z Z Cd B3 Z k)) (.det _ (fun Q K R m k=>(A4 Z Z B3 (fun w h=>Bc.at1 (Cu h.1) Z) k)) (.det _ (fun Q K R m k=>(mv Z Z k)) (.det _ (fun Q K R m k=>(Fc Z Z Z Tryz.underlying59 Bi (by omega) (fun w h=>Sl.some ((Cw.lst (h.1.2.1)).1) (by omega)) k)) ?_)))))))))))))))
  refine .det (vA v) (fun Q K R m k=>(D4 Z Z Bi Z (fun w h=>Cv ((Cw.lst (h.1.2.1)).1) (by decide) (fun _=>Z) hv) (B8 (Z) k))) (.nil (Ad 10 ((Ao Z Z (.cons Z (.cons Z .nil)) fb_79 (ih u (List.mem_of_getElem? hu) v huv)  (fun w h=>⟨Bo.mem (Cw.lst (h.1)).2 _ (List.mem_of_getElem? hu),Bo.mem (Cw.lst (h.2.1)).2 _ (List.mem_of_getElem? hv),tR⟩) Z (fun _=>(Ae (fun w h=>h.2) (Ad 11 ((not Z Z (A6 (qn (Ap Z (fun ht=>absurd ht (by simp)) (fun hf=>(Ah (bn (qn (Aa (oj (mv Z Z (oj (add Z Z Z (by omega) ?_)))))))))))))))))))))
  exact oj (Ak Z Z (on (qn (Ar (i+1) (by dsimp only; omega) (by (try dsimp only); omega) (⟨Z,Z,Z,tR⟩) .slnil (fun w h=>⟨(h.1),(h.2.1),(h.2.2.1),(Cu h),tR⟩)))))
 ·exact A1 (qe (qe (be (qn (Ab (Aa (oj (Ak Z Z (on (qn (Af (As () Z (.tmp Z .nil) Z tR .slnil (fun w h=>tR) (.inl Z)))))))))))))
theorem enc_ll (x:RV):x.ll.length≤(enc x.val).length∧∀ u∈x.ll,(enc u.val).length≤(enc x.val).length:=by
 cases x with
 | int n a c=>exact ⟨Nat.zero_le _,fun u hu=>by cases hu⟩
 | text s a c=>exact ⟨Nat.zero_le _,fun u hu=>by cases hu⟩
 | list l a c =>
  have e:(enc (RV.val (.list l a c))).length=1+((Dx (vals l).length).length+(E8 (vals l)).length):=by
   show (enc (.list (vals l))).length=_
   simp only [enc,List.length_cons,List.length_append]; omega
  have h1:=encL_len (vals l)
  have h2:(vals l).length=l.length:=by rw [Cz,List.length_map]
  refine ⟨?_,fun u hu=>?_⟩
  ·show l.length≤_
   omega
  ·have h3:=enc_mem (l:=vals l) u.val (by rw [Cz]; exact List.mem_map_of_mem hu)
   omega
theorem same_spec (x y:RV) (h:x.val=y.val) (hsz:(enc x.val).length≤1000000):Ay Tryz.prog 79 [vA x,vA y] [] (fun w=>Cw x w∧Cw y w∧True) (fun _:Unit=>⟨True,.bool true,[],fun _=>True⟩) :=
 same_step x y h (by have:=(enc_ll x).1; omega) fun u hu v huv=>same_spec u v huv (by have:=(enc_ll x).2 u hu; omega)
termination_by SizeOf.sizeOf x
decreasing_by exact ll_lt hu
theorem csame_spec (c d:Cm) (hc:CmB c) (hd:CmB d) (h:Cb c=Cb d) (hsz:(enc (.list (Cb c))).length≤1000000):Ay Tryz.prog 18 [av c.segs,av d.segs] [] (fun w=>CF1 c w∧CF2 c w∧CF3 c w∧CF4 c w∧CF5 c w∧CF6 c w∧CF1 d w∧CF2 d w∧CF3 d w∧CF4 d w∧CF5 d w∧CF6 d w∧True) (fun _:Unit=>⟨True,.bool true,[],fun _=>True⟩):=by
 refine Aj Tryz.func18 Z Z fun X w0=>(Ab (Aa (oj (C6 Z Z (fun r2=>(Al (Am 0 _ _ Z) ?_))))))
 try dsimp only [List.eraseIdx]
 refine oj (C6 Z Z (fun r3=>(Al (Am 0 _ _ Z) ?_)))
 try dsimp only [List.eraseIdx]
 refine oj (Ak Z Z (on (qn (Ab (Aa (oj (Bx Z Z Bk (fun w h=>h.2.1.1) Z (oj (call Z Z (.cons Z .nil) fb_78 (fcont_spec c hc)  (fun w h=>⟨(h.2.2.1),(Cu h),(Dw h),(Ez h),(Ec h),(Fg h),tR⟩) ?_)))))))))
 rintro ⟨r7,a7,k7⟩ ⟨h1,h2,h3⟩
 try dsimp only at h1 h2 h3
 try dsimp only
 refine oj (Ao Z Z (.cons Z .nil) fb_77 (Gv r7 a7 11 k7 h2)  (fun w h=>tR) Z (fun _=>(Ae (fun w h=>h.2) (oj (C7 Z Cc (fun r5=>(oj (C0 Z Z Bi Z Z .head (on (qn (Ab (A5 mo (A3 [0,1,2,3] (fun j=>Nat.beq j 2) (by kernel_rfl) Z Z (.det _ (fun Q K R m k=>(Eb Z Z Bi (.head _) Z k)) (.det _ (fun Q K R m k=>(Bx Z Z Bk (fun w h=>h.1.2.1.1) Z k)) (.gh _ _ _ _ Z (fun Q K R k=>call Z Z (.cons Z .nil) fb_78 (fcont_spec d hd)  (fun w h=>⟨(Io h.1),(Ew h.1),(Fh h.1),(Ev h.1),(Jr h.1),(Ij h.1),tR⟩) (fun x hx=>Ae (fun w h=>⟨⟨h.1,h.2.1⟩,h.2.2⟩) (k x hx))) (fun _=>by exact ⟨[],by simp⟩) ?_))))))))))))))))
 rintro ⟨r11,a11,k11⟩ ⟨g1,g2,g3⟩
 try dsimp only at g1 g2 g3
 try dsimp only [List.nil_append,List.cons_append]
 exact .det _ (fun Q K R m k=>(Ao Z Z (.cons Z .nil) fb_77 (Gv r11 a11 11 k11 g2)  (fun w h=>tR) Z (fun _=>Ae (fun w h=>h.2) k))) (.nil (Ad 4 ((Ao Z Z (.cons Z (.cons Z .nil)) fb_79 (same_spec (.list r7 a7 k7) (.list r11 a11 k11) (by show Val.list _=Val.list _; rw [h1,g1,h]) (by show (enc (.list (vals r7))).length≤_; rw [h1]; exact hsz))  (fun w h=>⟨⟨(by rw [h2]; exact (h.2.1.1)),(h.2.1.2.1)⟩,⟨(by rw [g2]; exact (h.1.1)),(h.1.2.1)⟩,tR⟩) Z (fun _=>(Ae (fun w h=>h.2) (Ad 5 ((Ak Z Z (A6 (qn (Af (As () Z (.tmp Z .nil) Z tR (Bl _) (fun w h=>tR) (.inl Z))))))))))))))
end Go.Chx
