/- Part of the proof that the law CommitsMembers holds. -/
import Derived.Test.YtegbaopejhpnkaaGreatDoorAa
import Derived.Test.YtegbaopejhpnkaaGreatDoorAh
import Derived.Test.YtegbaopejhpnkaaGreatDoorAm
import Derived.Test.YtegbaopejhpnkaaGreatDoorAn
import Derived.Test.YtegbaopejhpnkaaGreatDoorAo
import Derived.Test.YtegbaopejhpnkaaGreatDoorBa
namespace Go.Chx
open Go Go.Proofs
set_option maxHeartbeats 1000000
set_option maxRecDepth 4000
def mbZ:Mb:=⟨0,0,0⟩
def chZ:Chg:=⟨0,0,0,0,0⟩
def mbO (ms:List Mb) (d:Int):Option Mb:=ms.find? fun m=>decide (m.d=d)
def chO (xs:List Chg) (d:Int):Option Chg:=xs.find? fun m=>decide (m.d=d)
theorem map_add2 (oa:Option Addr) (a b:Nat):(oa.map (·.add a)).map (·.add b)=oa.map (·.add (a+b)):=by
 cases oa with
 | none=>rfl
 | some x =>
  simp only [Option.map_some,Option.some.injEq]
  by_cases hk:a=0
  ·subst hk; simp [Addr.add]
  ·by_cases hj:b=0
   ·subst hj; simp [Addr.add]
   ·simp [Addr.add,hk,hj,Nat.add_assoc]
theorem find_at {α:Type} {q:α→Bool} {xs:List α} {i:Nat} {x:α} (hx:xs[i]? = some x) (hq:q x=true) (h:∀ y∈xs.take i,q y=false):xs.find? q=some x:=by
 obtain ⟨hi,e⟩:=List.getElem?_eq_some_iff.1 hx
 rw [← List.take_append_drop i xs,List.find?_append,List.drop_eq_getElem_cons hi,e]
 have:(xs.take i).find? q=none:=by rw [List.find?_eq_none]; intro y hy; simp [h y hy]
 rw [this]; simp [hq]
theorem find_no {α:Type} {q:α→Bool} {xs:List α} (h:∀ y∈xs,q y=false):xs.find? q=none:=by rw [List.find?_eq_none]; intro y hy; simp [h y hy]
theorem take_ne {α:Type} {q:α→Bool} {xs:List α} {i:Nat} {x:α} (hx:xs[i]? = some x) (hq:q x=false) (h:∀ y∈xs.take i,q y=false):∀ y∈xs.take (i+1),q y=false:=fun y hy=>by
 rw [A7 hx] at hy
 rcases List.mem_append.1 hy with hy | hy
 ·exact h y hy
 ·rw [List.mem_singleton.1 hy]; exact hq
theorem fmember_spec (g:Gp) (d:Int) (hl:g.ms.length≤9223372036854775807):Ay Tryz.prog 12 [av g.segs,iv d] [] (fun w=>GF1 g w∧True) (fun _:Unit=>⟨True,.tuple #[av ((mbO g.ms d).getD mbZ).segs,.bool (mbO g.ms d).isSome],[],fun _=>True⟩):=by
 refine Aj Tryz.func12 Z Z fun X w0=>(Ab (Aa (oj (C6 Z Z (fun r2=>(Al (Am 0 _ _ Z) ?_))))))
 try dsimp only [List.eraseIdx]
 refine oj (C7 Z zok_45 (fun r4=>(oj (Ak Z Z (on (qn (Ab (Ab (Aa (oj (Ak Z Z (on (qn (Ag (Aw (fun (sT:(Nat))=>(⟨sT≤g.ms.length∧∀ y∈g.ms.take sT,decide (y.d=d)=false,[(1,iv d),(2,Bg r2 0),(4,Bg r4 0),(6,iv (sT:Int))],[bx r4 z_45 45],fun w=>GF1 g w∧Bc r2 g.segs 29 w∧True,g.ms.length-sT⟩:Hd)) (0) (⟨Nat.zero_le _,by simp⟩) (⟨Z,Z,Z,Z,tR⟩) (.refl _) (fun w h=>⟨(h.2.1),(h.1.1),tR⟩) ?_)))))))))))))))
 rintro i ⟨hi,hno⟩
 try dsimp only
 refine Ab (Ab (Aa (oj (mv Z Z (oj (A2 (o':=34) Z Z Dg Dl Z (oj (A4 Z Z Dl (fun w h=>Bc.at1 h.2.1 Z) (oj (Bn Z Z Tryz.underlying24 Z (oj (Dd Z Z Z (on (qn ?_))))))))))))))
 refine A8 Z (fun ht=>?_) (fun hf=>?_)
 ·obtain ⟨x,hx⟩:∃ x,g.ms[i]? = some x:=⟨_,List.getElem?_eq_getElem (by omega)⟩
  refine Ah (qn (Ab (Ag (Ab (Aa (oj (A2 (o':=34) Z Z Dg Dl Z (oj (A4 Z Z Dl (fun w h=>Bc.at1 h.2.1 Z) (oj (mv Z Z (oj (Fc Z Z Z Tryz.underlying24 Dk (by omega) (fun w h=>Sl.some (h.1) (by omega)) (oj (fadO Z Z fld_45_0 Ai (fun w h=>by obtain ⟨b,hb⟩:=Sl.some (h.1) (by omega); exact ⟨_,by rw [hb]; rfl⟩) (oj (A4 Z Z Ai (fun w h=>(Cv (h.1) (by decide) (fun _=>Z) hx).fld Z) (oj (mv Z Z (oj (Eu Z Z Z (on (qn ?_)))))))))))))))))))))))
  refine Fq Z (fun ht=>?_) (fun hf=>?_)
  ·refine Ab (Aa (oj (A2 (o':=34) Z Z Dg Dl Z (oj (A4 Z Z Dl (fun w h=>Bc.at1 h.2.1 Z) (oj (mv Z Z (oj (Fc Z Z Z Tryz.underlying24 Dk (by omega) (fun w h=>Sl.some (h.1) (by omega)) (oj (D4 Z Z Dk Z (fun w h=>Cv (h.1) (by decide) (fun _=>Z) hx) (Ac (d:=26) (v:=av x.segs) Z Z (oj (C0 Z Z Dk Z Z .head (oj (Ak Z Z (on (qn (Af (br (qr (qr ?_))))))))))))))))))))))
   refine br (qr ?_)
   have hO:mbO g.ms d=some x:=find_at hx (by simpa using ht) hno
   exact As () Z (.cellW Z Dk (.head _) Z (.tmp Z .nil)) (by rw [hO]; rfl) tR (Bl _) (fun w h=>tR) (.inl Z)
  ·exact Ah (bn (qn (Aa (oj (mv Z Z (oj (add Z Z Z (by omega) (oj (Ak Z Z (on (qn (Ar (i+1) (by dsimp only; omega) (⟨by (try dsimp only); omega,take_ne hx (by simp [hf]) hno⟩) (⟨Z,Z,Z,Z,tR⟩) (.refl _) (fun w h=>⟨(h.1),(h.2.1),tR⟩)))))))))))))
 ·have h4:i=g.ms.length:=by omega
  subst h4
  rw [List.take_length] at hno
  refine A1 (qe (qe (be (qn (Ab (Aa (oj (bld Z lay_45 .nil (oj (C0 Z Z Dk Z Z .head (oj (Ak Z Z (on (qn (Af ?_)))))))))))))))
  have hO:mbO g.ms d=none:=find_no hno
  exact As () Z (.cellW Z Dk (.head _) Z (.tmp Z .nil)) (by rw [hO]; rfl) tR (Bl _) (fun w h=>tR) (.inl Z)
theorem fof_spec (a:Option Addr) (cap:Nat) (xs:List Chg) (d:Int) (hl:xs.length≤9223372036854775807):Ay Tryz.prog 13 [.slice a xs.length cap,iv d] [] (fun w=>Sl 5 xs.length (xs.flatMap Chg.cells) (.slice a xs.length cap) w∧True) (fun _:Unit=>⟨True,.tuple #[av ((chO xs d).getD chZ).segs,.bool (chO xs d).isSome],[],fun _=>True⟩):=by
 refine Aj Tryz.func13 Z Z fun X w0=>(Ab (Aa (oj (C7 Z Fv (fun r4=>(oj (Ak Z Z (on (qn (Ab (Ab (Aa (oj (Ak Z Z (on (qn (Ag (Aw (fun (sT:(Nat))=>(⟨sT≤xs.length∧∀ y∈xs.take sT,decide (y.d=d)=false,[(0,.slice a xs.length cap),(1,iv d),(4,Bg r4 0),(6,iv (sT:Int))],[bx r4 z_49 49],fun w=>Sl 5 xs.length (xs.flatMap Chg.cells) (.slice a xs.length cap) w∧True,xs.length-sT⟩:Hd)) (0) (⟨Nat.zero_le _,by simp⟩) (⟨Z,Z,Z,Z,tR⟩) (.refl _) (fun w h=>⟨(h.1),tR⟩) ?_))))))))))))))))))
 rintro i ⟨hi,hno⟩
 try dsimp only
 refine Ab (Ab (Aa (oj (mv Z Z (oj (mv Z Z (oj (Bn Z Z Tryz.underlying30 Z (oj (Dd Z Z Z (on (qn ?_))))))))))))
 refine A8 Z (fun ht=>?_) (fun hf=>?_)
 ·obtain ⟨x,hx⟩:∃ x,xs[i]? = some x:=⟨_,List.getElem?_eq_getElem (by omega)⟩
  refine Ah (qn (Ab (Ag (Ab (Aa (oj (mv Z Z (oj (mv Z Z (oj (Fc Z Z Z Tryz.underlying30 Cp (by omega) (fun w h=>Sl.some (h.1) (by omega)) (oj (fadO Z Z Ds Ai (fun w h=>by obtain ⟨b,hb⟩:=Sl.some (h.1) (by omega); exact ⟨_,by rw [hb]; rfl⟩) (oj (A4 Z Z Ai (fun w h=>(Cv (h.1) (by decide) (fun _=>Z) hx).fld Z) (oj (mv Z Z (oj (Eu Z Z Z (on (qn ?_)))))))))))))))))))))
  refine Fq Z (fun ht=>?_) (fun hf=>?_)
  ·refine Ab (Aa (oj (mv Z Z (oj (mv Z Z (oj (Fc Z Z Z Tryz.underlying30 Cp (by omega) (fun w h=>Sl.some (h.1) (by omega)) (oj (D4 Z Z Cp Z (fun w h=>Cv (h.1) (by decide) (fun _=>Z) hx) (Ac (d:=23) (v:=av x.segs) Z Z (oj (C0 Z Z Cp Z Z .head (oj (Ak Z Z (on (qn (Af (br (qr (qr (br ?_)))))))))))))))))))))
   refine qr ?_
   have hO:chO xs d=some x:=find_at hx (by simpa using ht) hno
   exact As () Z (.cellW Z Cp (.head _) Z (.tmp Z .nil)) (by rw [hO]; rfl) tR (Bl _) (fun w h=>tR) (.inl Z)
  ·exact Ah (bn (qn (Aa (oj (mv Z Z (oj (add Z Z Z (by omega) (oj (Ak Z Z (on (qn (Ar (i+1) (by dsimp only; omega) (⟨by (try dsimp only); omega,take_ne hx (by simp [hf]) hno⟩) (⟨Z,Z,Z,Z,tR⟩) (.refl _) (fun w h=>⟨(h.1),tR⟩)))))))))))))
 ·have h4:i=xs.length:=by omega
  subst h4
  rw [List.take_length] at hno
  refine A1 (qe (qe (be (qn (Ab (Aa (oj (bld Z lay_49 .nil (oj (C0 Z Z Cp Z Z .head (oj (Ak Z Z (on (qn (Af ?_)))))))))))))))
  have hO:chO xs d=none:=find_no hno
  exact As () Z (.cellW Z Cp (.head _) Z (.tmp Z .nil)) (by rw [hO]; rfl) tR (Bl _) (fun w h=>tR) (.inl Z)
def fewG (g:Gp):Bool:=decide (g.ms.length≤8) && decide (g.tr.l.length≤80)
def fewH (n:Nat):Bool:=decide (n≤10)
def Kq (c:Cm):Bool:=c.bx.all (fun b=>decide (b.b.length≤200)) && c.wl.all (fun b=>decide (b.b.length≤200)) && fewH c.ch.length && decide (c.path.length≤12) && decide (c.bx.length≤40) && decide (c.wl.length≤10)
theorem ffew_spec (t:Tr):Ay Tryz.prog 43 [t.v] [] (fun _=>True) (fun _:Unit=>⟨True,.bool (decide (t.l.length≤80)),[],fun _=>True⟩):=by
 refine Aj Tryz.func43 Z Z fun X w0=>(Ab (Aa (oj (C6 Z Z (fun r1=>(Al (Am 0 _ _ Z) ?_))))))
 try dsimp only [List.eraseIdx]
 exact oj (Ak Z Z (on (qn (Ab (Aa (oj (A2 (o':=0) Z Z Jk Ju Z (oj (A4 Z Z Ju (fun w h=>Bc.at1 h.1.1 Z) (oj (Bn Z Z Tryz.underlying25 Z (oj (lei Z Z Z (oj (Ak Z Z (on (qn (Af (Ac (d:=2) (v:=.bool (decide (t.l.length≤80))) Z (by congr 1; exact decide_eq_decide.2 (by omega)) (As () Z (.tmp Z .nil) Z tR .slnil (fun w h=>tR) (.inl Z)))))))))))))))))))))
theorem fewg_spec (g:Gp):Ay Tryz.prog 9 [av g.segs] [] (fun _=>True) (fun _:Unit=>⟨True,.bool (fewG g),[],fun _=>True⟩):=by
 refine Aj Tryz.func9 Z Z fun X w0=>(Ab (Aa (oj (C6 Z Z (fun r1=>(Al (Am 0 _ _ Z) ?_))))))
 try dsimp only [List.eraseIdx]
 refine oj (Ak Z Z (on (qn (Ab (Aa (oj (A2 (o':=34) Z Z Dg Dl Z (oj (A4 Z Z Dl (fun w h=>Bc.at1 h.1.1 Z) (oj (Bn Z Z Tryz.underlying24 Z (oj (lei Z Z Z (oj (mv Z Z ?_)))))))))))))))
 refine B5 (d:=7) Z (fun h1=>?_) (fun h1=>?_)
 ·exact oj (gt Z Z Z ((A2 (o':=35) Z Z Ia B1 Z (oj (gt Z Z Z ((D4 Z Z B1 Z (fun w h=>Bc.atS (h.1.1) Z) (Ac (d:=9) (v:=g.tr.v) Z Z (oj (gt Z Z Z ((Ao Z Z (.cons Z .nil) fb_43 (ffew_spec g.tr)  (fun w h=>tR) Z (fun _=>(Ae (fun w h=>h.2) (oj (Cl Z Z Z (oj (Ak Z Z (on (qn (Af (Ac (d:=2) (v:=.bool (fewG g)) Z (by unfold fewG; first | (rw [decide_eq_true (show g.ms.length≤8 by omega)]; rfl) | (rw [decide_eq_false (show ¬ g.ms.length≤8 by omega)]; rfl)) (As () Z (.tmp Z .nil) Z tR .slnil (fun w h=>tR) (.inl Z))))))))))))))))))))))))
 ·exact oj (gf Z Z Z Z Z Z (oj (gf Z Z Z Z Z Z (oj (gf Z Z Z Z Z Z (oj (Df Z Z Z (oj (Ak Z Z (on (qn (Af (Ac (d:=2) (v:=.bool (fewG g)) Z (by unfold fewG; first | (rw [decide_eq_true (show g.ms.length≤8 by omega)]; rfl) | (rw [decide_eq_false (show ¬ g.ms.length≤8 by omega)]; rfl)) (As () Z (.tmp Z .nil) Z tR .slnil (fun w h=>tR) (.inl Z)))))))))))))))
theorem fewh_spec (a:Option Addr) (n cap:Nat):Ay Tryz.prog 20 [.slice a n cap] [] (fun _=>True) (fun _:Unit=>⟨True,.bool (fewH n),[],fun _=>True⟩):=by
 refine Aj Tryz.func20 Z Z fun X w0=>(Ab (Aa (oj (Ak Z Z (on (qn (Ab (Aa (oj (mv Z Z (oj (Bn Z Z Tryz.underlying30 Z (oj (lei Z Z Z (oj (Ak Z Z (on (qn (Af (Ac (d:=2) (v:=.bool (fewH n)) Z (by congr 1; exact decide_eq_decide.2 (by omega)) ?_))))))))))))))))))))
 exact As () Z (.tmp Z .nil) Z tR .slnil (fun w h=>tR) (.inl Z)
theorem fewc_spec (c:Cm) (h1:c.bx.length≤9223372036854775807) (h2:c.wl.length≤9223372036854775807):Ay Tryz.prog 10 [av c.segs] [] (fun w=>CF3 c w∧CF5 c w∧True) (fun _:Unit=>⟨True,.bool (Kq c),[],fun _=>True⟩):=by
 refine Aj Tryz.func10 Z Z fun X w0=>(Ab (Aa (oj (C6 Z Z (fun r1=>(Al (Am 0 _ _ Z) ?_))))))
 try dsimp only [List.eraseIdx]
 refine oj (Ak Z Z (on (qn (Ab (Ab (Aa (oj (Ak Z Z (on (qn (Ag (Aw (fun (sT:(Nat))=>(⟨sT≤c.bx.length∧∀ b∈c.bx.take sT,b.b.length≤200,[(1,Bg r1 0),(3,iv (sT:Int))],[],fun w=>CF3 c w∧CF5 c w∧Bc r1 c.segs 37 w∧True,c.bx.length-sT⟩:Hd)) (0) (⟨Nat.zero_le _,by simp⟩) (⟨Z,Z,tR⟩) .slnil (fun w h=>⟨(h.2.1),(h.2.2.1),(h.1.1),tR⟩) ?_))))))))))))
 rintro i ⟨hi,hno⟩
 try dsimp only
 refine Ab (Ab (Aa (oj (mv Z Z (oj (A2 (o':=37) Z Z D7 Db Z (oj (A4 Z Z Db (fun w h=>Bc.at1 h.2.2.1 Z) (oj (Bn Z Z Tryz.underlying32 Z (oj (Dd Z Z Z (on (qn ?_))))))))))))))
 refine A8 Z (fun ht=>?_) (fun hf=>?_)
 ·obtain ⟨x,hx⟩:∃ x,c.bx[i]? = some x:=⟨_,List.getElem?_eq_getElem (by omega)⟩
  refine Ah (qn (Ab (Ag (Ab (Aa (oj (A2 (o':=37) Z Z D7 Db Z (oj (A4 Z Z Db (fun w h=>Bc.at1 h.2.2.1 Z) (oj (mv Z Z (oj (Fc Z Z Z Tryz.underlying32 E1 (by omega) (fun w h=>Sl.some (h.1) (by omega)) (oj (fadO Z Z Fi Ct (fun w h=>by obtain ⟨b,hb⟩:=Sl.some (h.1) (by omega); exact ⟨_,by rw [hb]; rfl⟩) (oj (fadO Z Z H5 Bt (fun w h=>by obtain ⟨b,hb⟩:=Sl.some (h.1) (by omega); exact ⟨_,by rw [hb]; rfl⟩) (oj (A4 Z Z Bt (fun w h=>(by rw [map_add2]; exact (Cv (h.1) (by decide) (fun _=>rfl) hx).fld (o:=3) rfl)) (oj (Bn Z Z Tryz.underlying53 Z (oj (gti Z Z Z (on ?_))))))))))))))))))))))))
  refine qn ?_
  refine A8 Z (fun ht=>?_) (fun hf=>?_)
  ·refine Ab (Aa (oj (Ak Z Z (on (qn (Af (br (qr (qr (br (qr ?_)))))))))))
   have hz:Kq c=false:=by
    have:c.bx.all (fun b=>decide (b.b.length≤200))=false:=by rw [List.all_eq_false]; exact ⟨x,List.mem_of_getElem? hx,by simp; omega⟩
    unfold Kq; rw [this]; simp
   exact Ac (d:=2) (v:=.bool (Kq c)) Z (by rw [hz]) (As () Z (.tmp Z .nil) Z tR .slnil (fun w h=>tR) (.inl Z))
  ·refine Ah (bn (qn (Aa (oj (mv Z Z (oj (add Z Z Z (by omega) (oj (Ak Z Z (on (qn ?_)))))))))))
   exact Ar (i+1) (by dsimp only; omega) (⟨by (try dsimp only); omega,fun y hy=>by
     rw [A7 hx] at hy
     rcases List.mem_append.1 hy with hy | hy
     ·exact hno y hy
     ·rw [List.mem_singleton.1 hy]; omega⟩) (⟨rfl,rfl,trivial⟩) .slnil (fun w h=>⟨(h.1),(h.2.1),(h.2.2.1),trivial⟩)
 ·have h4:i=c.bx.length:=by omega
  subst h4
  rw [List.take_length] at hno
  have hB:=hno
  clear hno
  refine A1 (qe (qe (be (qn (Ab (Ab (Aa (oj (Ak Z Z (on (qn (Ag (Aw (fun (sT:(Nat))=>(⟨sT≤c.wl.length∧∀ b∈c.wl.take sT,b.b.length≤200,[(1,Bg r1 0),(4,iv (sT:Int))],[],fun w=>CF3 c w∧CF5 c w∧Bc r1 c.segs 37 w∧True,c.wl.length-sT⟩:Hd)) (0) (⟨Nat.zero_le _,by simp⟩) (⟨Z,Z,tR⟩) .slnil (fun w h=>⟨(h.1),(h.2.1),(h.2.2.1),tR⟩) ?_)))))))))))))
  rintro i ⟨hi,hno⟩
  try dsimp only
  refine Ab (Ab (Aa (oj (mv Z Z (oj (A2 (o':=38) Z Z D2 D5 Z (oj (A4 Z Z D5 (fun w h=>Bc.at1 h.2.2.1 Z) (oj (Bn Z Z Tryz.underlying33 Z (oj (Dd Z Z Z (on (qn ?_))))))))))))))
  refine A8 Z (fun ht=>?_) (fun hf=>?_)
  ·obtain ⟨x,hx⟩:∃ x,c.wl[i]? = some x:=⟨_,List.getElem?_eq_getElem (by omega)⟩
   refine Ah (qn (Ab (Ag (Ab (Aa (oj (A2 (o':=38) Z Z D2 D5 Z (oj (A4 Z Z D5 (fun w h=>Bc.at1 h.2.2.1 Z) (oj (mv Z Z (oj (Fc Z Z Z Tryz.underlying33 Gk (by omega) (fun w h=>Sl.some (h.2.1) (by omega)) (oj (fadO Z Z E4 Ct (fun w h=>by obtain ⟨b,hb⟩:=Sl.some (h.2.1) (by omega); exact ⟨_,by rw [hb]; rfl⟩) (oj (fadO Z Z H5 Bt (fun w h=>by obtain ⟨b,hb⟩:=Sl.some (h.2.1) (by omega); exact ⟨_,by rw [hb]; rfl⟩) (oj (A4 Z Z Bt (fun w h=>(by rw [map_add2]; exact (Cv (h.2.1) (by decide) (fun _=>rfl) hx).fld (o:=2) rfl)) (oj (Bn Z Z Tryz.underlying53 Z (oj (gti Z Z Z (on ?_))))))))))))))))))))))))
   refine qn ?_
   refine A8 Z (fun ht=>?_) (fun hf=>?_)
   ·refine Ab (Aa (oj (Ak Z Z (on (qn (Af (br (qr (qr (br (qr ?_)))))))))))
    have hz:Kq c=false:=by
     have:c.wl.all (fun b=>decide (b.b.length≤200))=false:=by rw [List.all_eq_false]; exact ⟨x,List.mem_of_getElem? hx,by simp; omega⟩
     unfold Kq; rw [this]; simp
    exact Ac (d:=2) (v:=.bool (Kq c)) Z (by rw [hz]) (As () Z (.tmp Z .nil) Z tR .slnil (fun w h=>tR) (.inl Z))
   ·refine Ah (bn (qn (Aa (oj (mv Z Z (oj (add Z Z Z (by omega) (oj (Ak Z Z (on (qn ?_)))))))))))
    exact Ar (i+1) (by dsimp only; omega) (⟨by (try dsimp only); omega,fun y hy=>by
      rw [A7 hx] at hy
      rcases List.mem_append.1 hy with hy | hy
      ·exact hno y hy
      ·rw [List.mem_singleton.1 hy]; omega⟩) (⟨rfl,rfl,trivial⟩) .slnil (fun w h=>⟨(h.1),(h.2.1),(h.2.2.1),trivial⟩)
  ·have h4:i=c.wl.length:=by omega
   subst h4
   rw [List.take_length] at hno
   have hW:=hno
   clear hno
   refine A1 (qe (qe (be (qn (Ab (Aa (oj (A2 (o':=35) Z Z Es Et Z (oj (A4 Z Z Et (fun w h=>Bc.at1 h.2.2.1 Z) (oj (Ao Z Z (.cons Z .nil) fb_20 (fewh_spec c.cA c.ch.length c.cC)  (fun w h=>tR) Z (fun _=>(Ae (fun w h=>h.2) (oj (mv Z Z ?_))))))))))))))))
   refine Dn (d:=40) Z (fun k1=>?_) (fun k1=>?_)
   ·refine oj (gt Z Z Z ((A2 (o':=36) Z Z Gn Eg Z (oj (gt Z Z Z ((A4 Z Z Eg (fun w h=>Bc.at1 h.2.2.1 Z) (oj (gt Z Z Z ((Bn Z Z Tryz.underlying31 Z (oj (gt Z Z Z ((lei Z Z Z (oj (Cl Z Z Z (oj (mv Z Z ?_)))))))))))))))))))
    refine B5 (d:=46) Z (fun k2=>?_) (fun k2=>?_)
    ·refine oj (gt Z Z Z ((A2 (o':=37) Z Z D7 Db Z (oj (gt Z Z Z ((A4 Z Z Db (fun w h=>Bc.at1 h.2.2.1 Z) (oj (gt Z Z Z ((Bn Z Z Tryz.underlying32 Z (oj (gt Z Z Z ((lei Z Z Z (oj (Cl Z Z Z (oj (mv Z Z ?_)))))))))))))))))))
     refine B5 (d:=52) Z (fun k3=>?_) (fun k3=>?_)
     ·refine oj (gt Z Z Z ((A2 (o':=38) Z Z D2 D5 Z (oj (gt Z Z Z ((A4 Z Z D5 (fun w h=>Bc.at1 h.2.2.1 Z) (oj (gt Z Z Z ((Bn Z Z Tryz.underlying33 Z (oj (gt Z Z Z ((lei Z Z Z (oj (Cl Z Z Z (oj (Ak Z Z (on (qn (Af ?_))))))))))))))))))))))
      have hb:c.bx.all (fun b=>decide (b.b.length≤200))=true:=List.all_eq_true.2 fun b hb=>by simpa using hB b hb
      have hw:c.wl.all (fun b=>decide (b.b.length≤200))=true:=List.all_eq_true.2 fun b hb=>by simpa using hW b hb
      exact Ac (d:=2) (v:=.bool (Kq c)) Z (by unfold Kq; rw [hb,hw]; congr 1; rw [Bool.eq_iff_iff]; simp [k1] <;> omega) (As () Z (.tmp Z .nil) Z tR .slnil (fun w h=>tR) (.inl Z))
     ·refine oj (gf Z Z Z Z Z Z (oj (gf Z Z Z Z Z Z (oj (gf Z Z Z Z Z Z (oj (gf Z Z Z Z Z Z (oj (Df Z Z Z (oj (Ak Z Z (on (qn (Af ?_))))))))))))))
      have hb:c.bx.all (fun b=>decide (b.b.length≤200))=true:=List.all_eq_true.2 fun b hb=>by simpa using hB b hb
      have hw:c.wl.all (fun b=>decide (b.b.length≤200))=true:=List.all_eq_true.2 fun b hb=>by simpa using hW b hb
      exact Ac (d:=2) (v:=.bool (Kq c)) Z (by unfold Kq; rw [hb,hw]; congr 1; rw [Bool.eq_iff_iff]; simp [k1] <;> omega) (As () Z (.tmp Z .nil) Z tR .slnil (fun w h=>tR) (.inl Z))
    ·refine oj (gf Z Z Z Z Z Z (oj (gf Z Z Z Z Z Z (oj (gf Z Z Z Z Z Z (oj (gf Z Z Z Z Z Z (oj (Df Z Z Z (oj (mv Z Z (oj (gf Z Z Z Z Z Z (oj (gf Z Z Z Z Z Z (oj (gf Z Z Z Z Z Z (oj (gf Z Z Z Z Z Z (oj (Df Z Z Z (oj (Ak Z Z (on (qn (Af ?_))))))))))))))))))))))))))
     have hb:c.bx.all (fun b=>decide (b.b.length≤200))=true:=List.all_eq_true.2 fun b hb=>by simpa using hB b hb
     have hw:c.wl.all (fun b=>decide (b.b.length≤200))=true:=List.all_eq_true.2 fun b hb=>by simpa using hW b hb
     exact Ac (d:=2) (v:=.bool (Kq c)) Z (by unfold Kq; rw [hb,hw]; congr 1; rw [Bool.eq_iff_iff]; simp [k1] <;> omega) (As () Z (.tmp Z .nil) Z tR .slnil (fun w h=>tR) (.inl Z))
   ·refine oj (gf Z Z Z Z Z Z (oj (gf Z Z Z Z Z Z (oj (gf Z Z Z Z Z Z (oj (gf Z Z Z Z Z Z (oj (Df Z Z Z (oj (mv Z Z (oj (gf Z Z Z Z Z Z (oj (gf Z Z Z Z Z Z (oj (gf Z Z Z Z Z Z (oj (gf Z Z Z Z Z Z (oj (Df Z Z Z (oj (mv Z Z (oj (gf Z Z Z Z Z Z (oj (gf Z Z Z Z Z Z (oj (gf Z Z Z Z Z Z (oj (gf Z Z Z Z Z Z ?_)))))))))))))))))))))))))))))))
    refine oj (Df Z Z Z (oj (Ak Z Z (on (qn (Af ?_))))))
    have hb:c.bx.all (fun b=>decide (b.b.length≤200))=true:=List.all_eq_true.2 fun b hb=>by simpa using hB b hb
    have hw:c.wl.all (fun b=>decide (b.b.length≤200))=true:=List.all_eq_true.2 fun b hb=>by simpa using hW b hb
    exact Ac (d:=2) (v:=.bool (Kq c)) Z (by unfold Kq; rw [hb,hw]; congr 1; rw [Bool.eq_iff_iff]; simp [k1] <;> omega) (As () Z (.tmp Z .nil) Z tR .slnil (fun w h=>tR) (.inl Z))
theorem blen_spec (q:Nat) (a:Option Addr) (n c:Nat) (hn:n≤1000000000000000):Ay Tryz.prog 253 [Bg q 0] [bfE q a n c] (fun _=>True) (fun _:Unit=>⟨True,iv n,[bfE q a n c],fun _=>True⟩):=by
 refine Aj Tryz.func253 Z Z fun X w0=>(Ab (Aa (oj (Ak Z Z (on (qn (Ab (A5 mo (A3 [0,1,2,3,4,5,6,7,8] (fun _=>false) (by kernel_rfl) Z Z (.det _ (fun Q K R m k=>(mv Z Z k)) (.det _ (fun Q K R m k=>(Cq Z Z k)) (.det _ (fun Q K R m k=>(A2 (o':=0) Z Z C2 Bt Z k)) (.det _ (fun Q K R m k=>(Bh Z Z Bt (.head _) (Z) k)) (.det _ (fun Q K R m k=>(Bn Z Z Tryz.underlying53 Z k)) (.det _ (fun Q K R m k=>(mv Z Z k)) (.det _ (fun Q K R m k=>(Cq Z Z k)) ?_))))))))))))))))
 exact .det _ (fun Q K R m k=>(A2 (o':=1) Z Z I5 Ai Z k)) (.det _ (fun Q K R m k=>(Bh Z Z Ai (.head _) (Z) k)) (.nil (Ad 9 ((sub Z Z Z (by omega) (Ad 10 ((Ak Z Z (A6 (qn (Af (As () Z (.tmp Z .nil) Z tR (.refl _) (fun w h=>tR) (.inl Z)))))))))))))
theorem btry_no (q:Nat) (a:Option Addr) (n c:Nat) (k:Nat) (hk:c < n+k) (hn:n≤1000000000000000) (hc:c≤9223372036854775807):Ay Tryz.prog 213 [Bg q 0,iv k] [bfE q a n c] (fun _=>True) (fun _:Unit=>⟨True,.tuple #[iv 0,.bool false],[bfE q a n c],fun _=>True⟩):=by
 refine Aj Tryz.func213 Z Z fun X w0=>(Ab (Aa (oj (Ak Z Z (oj (Ak Z Z (on (qn (Ab (Ab (Aa (oj (mv Z Z (oj (Cq Z Z (oj (A2 (o':=0) Z Z C2 Bt Z (oj (Bh Z Z Bt (.head _) (Z) (oj (Bn Z Z Tryz.underlying53 Z (oj (Ak Z Z ?_)))))))))))))))))))))))
 refine on (qn (Ab (Aa (oj (mv Z Z (oj (mv Z Z (oj (Cq Z Z (oj (A2 (o':=0) Z Z C2 Bt Z (oj (Bh Z Z Bt (.head _) (Z) (oj (caps Z Z Tryz.underlying53 Z (oj (mv Z Z (oj (sub Z Z Z (by omega) (oj (lei Z Z Z (on (qn (A8 Z (fun ht=>absurd ht (by omega)) (fun hf=>?_)))))))))))))))))))))))))
 exact Ah (qn (Ab (Aa (oj (Ak Z Z (oj (Ak Z Z (on (qn (Af (As () Z (.tmp Z (.tmp Z .nil)) Z tR (.refl _) (fun w h=>tR) (.inl Z))))))))))))
theorem btry_ok (q g:Nat) (n c:Nat) (k:Nat) (hk:n+k≤c) (hc:c≤9223372036854775807):Ay Tryz.prog 213 [Bg q 0,iv k] [bfE q (some ⟨g,0,none⟩) n c] (fun _=>True) (fun _:Unit=>⟨True,.tuple #[iv n,.bool true],[bfE q (some ⟨g,0,none⟩) (n+k) c],fun _=>True⟩):=by
 refine Aj Tryz.func213 Z Z fun X w0=>(Ab (Aa (oj (Ak Z Z (oj (Ak Z Z (on (qn (Ab (Ab (Aa (oj (mv Z Z (oj (Cq Z Z (oj (A2 (o':=0) Z Z C2 Bt Z (oj (Bh Z Z Bt (.head _) (Z) (oj (Bn Z Z Tryz.underlying53 Z (oj (Ak Z Z ?_)))))))))))))))))))))))
 refine on (qn (Ab (Aa (oj (mv Z Z (oj (mv Z Z (oj (Cq Z Z (oj (A2 (o':=0) Z Z C2 Bt Z (oj (Bh Z Z Bt (.head _) (Z) (oj (caps Z Z Tryz.underlying53 Z (oj (mv Z Z (oj (sub Z Z Z (by omega) (oj (lei Z Z Z (on (qn (A8 Z (fun ht=>?_) (fun hf=>absurd hf (by omega))))))))))))))))))))))))))
 refine Ab (Aa (oj (mv Z Z (oj (mv Z Z (oj (Cq Z Z (oj (A2 (o':=0) Z Z C2 Bt Z (oj (Bh Z Z Bt (.head _) (Z) (oj (mv Z Z (oj (mv Z Z (oj (add Z Z Z (by omega) (Ac (d:=28) (v:=iv ((n+k:Nat):Int)) Z (by rfl) (oj (slc (h:=n+k) Z Z Tryz.underlying53 Bv Z ⟨_,Z,hk⟩ (.inl Z) Z (Ac (d:=29) (v:=.slice (some ⟨g,0,none⟩) (n+k) c) Z (by simp [Addr.add]) (oj (Cq Z Z (oj (A2 (o':=0) Z Z C2 Bt Z (oj (Cr Z Z Bt Z .head (.head Z) Z ?_)))))))))))))))))))))))))))
 exact on (qn (Ab (Aa (oj (mv Z Z (oj (Ak Z Z (oj (Ak Z Z (on (qn (Af (qr (As () Z (.tmp Z (.tmp Z .nil)) Z tR (.refl _) (fun w h=>tR) (.inl Z)))))))))))))))
theorem idle286 (w:World):CallsDIn (wf none) 0 Tryz.prog 286 ([]:List Value).toArray .returning w fun e u' w'=>e=.returned (.tuple #[])∧u'=.returning∧w'=w:=by
 refine callsDIn_of_wpSIn Tryz.func286 Z tR fun c₀ cs hu=>?_
 apply wpSIn_seq
 apply wpSIn_region
 simp [wpOpsSIn,go_sem,recoverD,hu,Exit.thenS]
 refine wpSIn_cond (t:=false) (by simp [Act.eval]) ?_
 simp only [Bool.false_eq_true,if_false]
 refine wpSIn_of_wpIn Z (wpIn_skip ?_)
 cases c₀
 simp_all [bodyPostS,results]
theorem own_cases {g:Addr} {m cap:Nat} {xs:List Value} {en:A9} (h:Own 5 1 (.slice (some g) m cap) m xs en):∃ r cur,g=⟨r,0,none⟩∧en=lsE r cur 5∧cur.length=cap∧m≤cap∧cap≤maxLen∧cur.take m=xs:=by
 cases h with
 | row h1 h2 h3 h4=>exact ⟨_,_,rfl,rfl,by simpa using h3,h1,h2,by simpa using h4⟩
theorem bgrows_spec (a:Option Addr) (c:Nat) (bs:List UInt8) (k:Nat) (h0:0 < k) (hn:bs.length≤c) (hc:c≤1000000) (hk:bs.length+k≤1000000):Ay Tryz.prog 255 [.slice a bs.length c,iv k] [] (fun w=>Sl 1 bs.length (An bs) (.slice a bs.length c) w∧True) (fun x:Nat × List Value × Nat=>⟨x.2.1.length=x.2.2∧x.2.2≤maxLen∧bs.length+k≤x.2.2∧x.2.1.take bs.length=An bs,.slice (some ⟨x.1,0,none⟩) bs.length x.2.2,[lsE x.1 x.2.1 5],fun _=>True⟩):=by
 refine Jf Tryz.func255 Z Z fun X w0=>(Cx (Ab (Aa (oj (Ak Z Z (on (qn (Ab (Aa (oj (kj_defer Z Z (on (qn (Ab (Aa (oj (mv Z Z (oj (Bn Z Z Tryz.underlying53 Z ?_)))))))))))))))))))
 refine oj (mv Z Z (oj (add Z Z Z (by omega) (oj (Ak Z Z (on (qn (Ab ?_))))))))
 refine Jo (fun (sT:(Nat))=>(⟨bs.length+k≤sT∧sT≤2000000,[(0,.slice a bs.length c),(1,iv k),(5,iv (sT:Int))],[none],fun w=>Sl 1 bs.length (An bs) (.slice a bs.length c) w∧True,0⟩:Hd)) ?_ ?_
 ·refine Ab (Aa (oj (mv Z Z (oj (mv Z Z (oj (caps Z Z Tryz.underlying53 Z (oj (mul Z Z Z (by omega) (oj (Dd Z Z Z (on (qn ?_)))))))))))))
  refine A8 Z (fun h1=>?_) (fun h1=>?_)
  ·exact Aa (oj (mv Z Z (oj (caps Z Z Tryz.underlying53 Z (oj (mul Z Z Z (by omega) (oj (Ak Z Z (on (qn (Dm (2*c) (by (try dsimp only); omega) (⟨Z,Z,Z,tR⟩) (.refl _) (fun w h=>⟨(h.1),tR⟩))))))))))))
  ·exact Ah (qn (Dm (bs.length+k) (by (try dsimp only); omega) (⟨Z,Z,Z,tR⟩) (.refl _) (fun w h=>⟨(h.1),tR⟩)))
 rintro m ⟨hm1,hm2⟩
 try dsimp only
 refine Ab (Aa (oj (mv Z Z (oj (apz (i:=0) Z Z Z Hj Tryz.underlying3 Z (by omega) (by omega) (by simp only [maxLen]; omega) ?_)))))
 rintro ga cap xs en hown
 dsimp only [List.set]
 obtain ⟨g,cur,rfl,rfl,hcl,hcm,hcx,_⟩:=own_cases hown
 refine oj (Ak Z Z (on (qn (Ab (Aa (oj (mv Z Z (oj (mv Z Z (oj (cpL (r:=g) (o:=0) (dl:=m) (dc:=cap) (m:=bs.length) (n:=bs.length) (sz:=1) (xv:=.slice a bs.length c) (news:=An bs) (cur:=cur) (An bs++cur.drop bs.length) Z Z Z Tryz.underlying53 Bv .head (by show bs.length=min bs.length m; omega) (fun w ho h=>(Sl.src (h.1)).n) (by omega) (by simp) (oj (Ak Z Z (on (qn (Ab (Aa (oj (mv Z Z (oj (mv Z Z (oj (slc (h:=bs.length) Z Z Tryz.underlying53 Bv Z ⟨_,Z,by omega⟩ (.inl Z) Z ?_)))))))))))))))))))))))
 exact Ac (d:=27) (v:=.slice (some ⟨g,0,none⟩) bs.length cap) Z (by simp [Addr.add]) (oj (Ak Z Z (on (qn (Af (retD (fun w=>idle286 w) fb_286 (g,_,cap) Z (.tmp Z .nil) Z ⟨by (try dsimp only); rw [List.length_append,Br,List.length_drop]; omega,hcx,by (try dsimp only); omega,by rw [← Br bs]; exact List.take_left⟩ (.refl _) (fun w h=>tR)))))))
theorem bgrow_nil (q k:Nat) (h0:0 < k) (hk:k≤64):Ay Tryz.prog 214 [Bg q 0,iv k] [bfE q none 0 0] (fun _=>True) (fun x:Nat=>⟨True,iv 0,[lsE x (flat [zby 64]) 5,bfE q (some ⟨x,0,none⟩) k 64],fun _=>True⟩):=by
 refine Aj Tryz.func214 Z Z fun X w0=>(Ab (Aa (oj (Ak Z Z (on (qn (Ab (Aa (oj (mv Z Z (oj (Ce Z Z (.cons Z .nil) fb_253 (blen_spec q none 0 0 (by omega)) (fun _=>.head) (fun _=>Z) (fun w h=>tR) ?_))))))))))))
 rintro ⟨⟩ _
 try dsimp only
 refine oj (Ak Z Z (on (qn (Ab (Ab (Aa (oj (mv Z Z (oj (Eu Z Z Z (Ac (d:=12) (v:=.bool true) Z (Z) (oj (mv Z Z (oj (gt Z Z Z ((mv Z Z (oj (gt Z Z Z ((Cq Z Z (oj (gt Z Z Z ((A2 (o':=1) Z Z I5 Ai Z ?_)))))))))))))))))))))))))
 refine oj (gt Z Z Z ((Bh Z Z Ai (.head _) (Z) (oj (gt Z Z Z ((G2 Z Z Z (Ac (d:=18) (v:=.bool false) Z (Z) (oj (Cl Z Z Z (on (qn (Ap Z (fun h=>by cases h) (fun _=>(Ah (qn (Ab (Ab (Aa (oj (mv Z Z (oj (mv Z Z ?_)))))))))))))))))))))))
 refine oj (Ce Z Z (.cons Z (.cons Z .nil)) fb_213 (btry_no q none 0 0 k (by omega) (by omega) (by omega)) (fun _=>.head) (fun _=>Z) (fun w h=>tR) ?_)
 rintro ⟨⟩ _
 try dsimp only
 refine oj (mv Z Z (oj (ext Z Z Z (oj (ext Z Z Z (oj (Ak Z Z (oj (Ak Z Z (on (qn (Ab (Aa (oj (mv Z Z (on (qn (Ap Z (fun ht=>absurd ht (by simp)) (fun hf=>(Ah (qn (Ab ?_))))))))))))))))))))))
 refine Ab (Aa (oj (mv Z Z (oj (Cq Z Z (oj (A2 (o':=0) Z Z C2 Bt Z (oj (Bh Z Z Bt (.head _) (Z) (oj (eqns Z Z Z Tryz.underlying53 (Ac (d:=34) (v:=.bool true) Z (Z) (oj (mv Z Z (oj (gt Z Z Z ((mv Z Z (oj (gt Z Z Z ((lei Z Z Z (Ac (d:=37) (v:=.bool true) Z (by congr 1; simp; omega) (oj (Cl Z Z Z (on ?_))))))))))))))))))))))))))
 refine qn (Ap Z (fun _=>(Ab (Aa (oj (mv Z Z (oj (mv Z Z (oj (mkb (n:=k) (c:=64) Z Z Z Hj (by kernel_rfl) hk (by decide) (fun g=>(oj (Cq Z Z (oj (A2 (o':=0) Z Z C2 Bt Z (oj (Cr Z Z Bt Z (.tail .head) (.head Z) Z (on (qn (Ab (Aa (oj (Ak Z Z (on ?_))))))))))))))))))))))) (fun h=>by cases h))
 exact qn (Af (qr (As g Z (.tmp Z .nil) Z tR (.refl _) (fun w h=>tR) (.inl Z))))
theorem bgrow_big (q g c:Nat) (bs:List UInt8) (en:A9) (ho:Own 5 1 (.slice (some ⟨g,0,none⟩) bs.length c) bs.length (An bs) en) (j:Nat) (h0:0 < j) (hb0:0 < bs.length) (hn:bs.length≤c) (hc:c≤1000000) (hk:bs.length+j≤1000000) (h1:c < bs.length+j) (h2:c < 2*(bs.length+j)):Ay Tryz.prog 214 [Bg q 0,iv j] [bfE q (some ⟨g,0,none⟩) bs.length c,en] (fun _=>True) (fun x:Nat × List Value × Nat=>⟨x.2.1.length=x.2.2∧x.2.2≤maxLen∧bs.length+j≤x.2.2∧x.2.1.take bs.length=An bs,iv bs.length,[bfE q (some ⟨x.1,0,none⟩) (bs.length+j) x.2.2,lsE x.1 x.2.1 5],fun _=>True⟩):=by
 refine Aj Tryz.func214 Z Z fun X w0=>(Ab (Aa (oj (Ak Z Z (on (qn (Ab (Aa (oj (mv Z Z (By (i:=1) Z ho (Co _) ?_)))))))))))
 try dsimp only [List.eraseIdx]
 refine oj (Ce Z Z (.cons Z .nil) fb_253 (blen_spec q (some ⟨g,0,none⟩) bs.length c (by omega)) (fun _=>.head) (fun _=>Z) (fun w h=>tR) ?_)
 rintro ⟨⟩ _
 try dsimp only
 refine oj (Ak Z Z (on (qn (Ab (Ab (Aa (oj (mv Z Z (oj (Eu Z Z Z (Ac (d:=12) (v:=.bool false) Z (by congr 1; simp; intro h; subst h; simp at hb0) (oj (mv Z Z (oj (gf Z Z Z Z Z Z (oj (gf Z Z Z Z Z Z (oj (gf Z Z Z Z Z Z (oj (gf Z Z Z Z Z Z (oj (gf Z Z Z Z Z Z (oj (Df Z Z Z ?_)))))))))))))))))))))))))
 refine on (qn (Ap Z (fun h=>by cases h) (fun _=>(Ah (qn (Ab (Ab (Aa (oj (mv Z Z (oj (mv Z Z (oj (Ce Z Z (.cons Z (.cons Z .nil)) fb_213 (btry_no q (some ⟨g,0,none⟩) bs.length c j (by omega) (by omega) (by omega)) (fun _=>.head) (fun _=>Z) (fun w h=>tR) ?_))))))))))))))
 rintro ⟨⟩ _
 try dsimp only
 refine oj (mv Z Z (oj (ext Z Z Z (oj (ext Z Z Z (oj (Ak Z Z (oj (Ak Z Z (on (qn (Ab (Aa (oj (mv Z Z (on (qn (Ap Z (fun ht=>absurd ht (by simp)) (fun hf=>(Ah (qn (Ab ?_))))))))))))))))))))))
 refine Ab (Aa (oj (mv Z Z (oj (Cq Z Z (oj (A2 (o':=0) Z Z C2 Bt Z (oj (Bh Z Z Bt (.head _) (Z) (oj (eqns Z Z Z Tryz.underlying53 (Ac (d:=34) (v:=.bool false) Z (Z) (oj (mv Z Z (oj (gf Z Z Z Z Z Z (oj (gf Z Z Z Z Z Z (oj (Df Z Z Z (on (qn (Ap Z (fun h=>by cases h) (fun _=>(Ah ?_)))))))))))))))))))))))))
 refine qn (Ab (Aa (oj (mv Z Z (oj (Cq Z Z (oj (A2 (o':=0) Z Z C2 Bt Z (oj (Bh Z Z Bt (.head _) (Z) (oj (caps Z Z Tryz.underlying53 Z (oj (Ak Z Z (on (qn (Ab (Ab (Aa (oj (mv Z Z (oj (mv Z Z ?_)))))))))))))))))))))))
 refine oj (quo Z Z Z (by decide) (Ac (d:=51) (v:=iv ((c / 2:Nat):Int)) Z (by rw [Int.tdiv_eq_ediv_of_nonneg (by omega)]; rw [Dr (by omega)]; rfl) (oj (mv Z Z (oj (sub Z Z Z (by omega) (oj (lei Z Z Z (on (qn (A8 Z (fun ht=>absurd ht (by omega)) (fun hf=>(Ab (Aa (oj (mv Z Z (oj (mv Z Z (oj (sub Z Z Z (by omega) (oj (mv Z Z (oj (sub Z Z Z (by omega) (oj (gti Z Z Z ?_))))))))))))))))))))))))))
 refine on (qn (A8 Z (fun ht=>absurd ht (by omega)) (fun hf=>(A5 mo (A3 [0,1,2,3,4,5,6,7,8,9,10,11,12,13,14,15,16] (fun j=>Nat.beq j 16) (by kernel_rfl) Z Z (.det _ (fun Q K R m k=>(mv Z Z k)) (.det _ (fun Q K R m k=>(mv Z Z k)) (.det _ (fun Q K R m k=>(Cq Z Z k)) (.det _ (fun Q K R m k=>(A2 (o':=0) Z Z C2 Bt Z k)) (.det _ (fun Q K R m k=>(Bh Z Z Bt (.head _) (Z) k)) (.det _ (fun Q K R m k=>(mv Z Z k)) (.det _ (fun Q K R m k=>(Cq Z Z k)) (.det _ (fun Q K R m k=>(A2 (o':=1) Z Z I5 Ai Z k)) (.det _ (fun Q K R m k=>(Bh Z Z Ai (.head _) (Z) k)) (.det (.slice (some ⟨g,0,none⟩) bs.length c) (fun Q K R m k=>(slc (l':=0) Z Z Tryz.underlying53 Bv Z Z (.inl Z) ⟨_,Z,by omega⟩ (B8 (by simp [Addr.add]) k))) (.det _ (fun Q K R m k=>(mv Z Z k)) ?_))))))))))))))))
 refine .det _ (fun Q K R m k=>(Cq Z Z k)) (.det _ (fun Q K R m k=>(A2 (o':=1) Z Z I5 Ai Z k)) (.det _ (fun Q K R m k=>(Bh Z Z Ai (.head _) (Z) k)) (.det _ (fun Q K R m k=>(mv Z Z k)) (.det (iv (j:Int)) (fun Q K R m k=>(add Z Z Z (by omega) (B8 (by rw [Int.zero_add]) k))) (.gh (γ:=Nat × List Value × Nat) _ _ (fun x=>[bfE q (some ⟨g,0,none⟩) bs.length c]++[lsE x.1 x.2.1 5]) _ Z (fun Q K R k=>(call Z Z (.cons Z (.cons Z .nil)) fb_255 (bgrows_spec (some ⟨g,0,none⟩) c bs j h0 hn hc hk)  (fun w h=>⟨(h.1.2.2.1.1),tR⟩) (fun x hx=>Cn (l':=[bfE q (some ⟨g,0,none⟩) bs.length c]++[lsE x.1 x.2.1 5]) List.perm_append_comm (Ae (fun w h=>⟨⟨h.1,h.2.1⟩,h.2.2⟩) (k x hx))))) (fun x=>⟨[lsE x.1 x.2.1 5],Z⟩) ?_)))))
 rintro ⟨g2,cur2,c2⟩ ⟨e1,e2,e3,e4⟩
 try dsimp only at e1 e2 e3 e4
 try dsimp only [List.nil_append,List.cons_append]
 refine .nil (Ad 17 ((Cq Z Z (Ad 18 ((A2 (o':=0) Z Z C2 Bt Z (Ad 19 ((Cr Z Z Bt Z .head (.head Z) Z (A6 (qn (Ab (Aa (oj (mv Z Z (oj (Cq Z Z (oj (A2 (o':=1) Z Z I5 Ai Z (oj (Cr Z Z Ai Z .head (.tail (.head Z)) Z (on ?_))))))))))))))))))))))
 refine qn (Ab (Aa (oj (mv Z Z (oj (mv Z Z (oj (Cq Z Z (oj (A2 (o':=0) Z Z C2 Bt Z (oj (Bh Z Z Bt (.head _) (Z) (oj (mv Z Z (oj (mv Z Z (oj (add Z Z Z (by omega) (Ac (d:=105) (v:=iv ((bs.length+j:Nat):Int)) Z (by rfl) (oj (slc (h:=bs.length+j) Z Z Tryz.underlying53 Bv Z ⟨_,Z,by omega⟩ (.inl Z) Z (Ac (d:=106) (v:=.slice (some ⟨g2,0,none⟩) (bs.length+j) c2) Z (by simp [Addr.add]) (oj (Cq Z Z (oj (A2 (o':=0) Z Z C2 Bt Z ?_))))))))))))))))))))))))))
 exact oj (Cr Z Z Bt Z .head (.head Z) Z (on (qn (Ab (Aa (oj (mv Z Z (oj (Ak Z Z (on (qn (Af (As (g2,cur2,c2) Z (.tmp Z .nil) Z ⟨e1,e2,e3,e4⟩ (.refl _) (fun w h=>tR) (.inl Z))))))))))))))
theorem bwrite_nil (q:Nat) (xs:List UInt8) (sa:Option Addr) (sc:Nat) (h0:0 < xs.length) (h64:xs.length≤64):Ay Tryz.prog 160 [Bg q 0,.slice sa xs.length sc] [bfE q none 0 0] (fun w=>Sl 1 xs.length (An xs) (.slice sa xs.length sc) w∧True) (fun g:BfT=>⟨BfS xs g∧g.2.2=64,.tuple #[iv xs.length,.nilIface],bfL q xs g,fun _=>True⟩):=by
 refine Aj Tryz.func160 Z Z fun X w0=>(Ab (Aa (oj (Ak Z Z (oj (Ak Z Z (on (qn (Ab (Aa (oj (mv Z Z (oj (Cq Z Z (oj (A2 (o':=2) Z Z fld_222_2 ty_220 Z (oj (Cr Z Z ty_220 Z .head (.tail (.tail (.head Z))) Z (on (qn (Ab ?_)))))))))))))))))))))
 refine Aa (oj (mv Z Z (oj (mv Z Z (oj (Bn Z Z Tryz.underlying53 Z (oj (Ce Z Z (.cons Z (.cons Z .nil)) fb_213 (btry_no q none 0 0 xs.length (by omega) (by omega) (by omega)) (fun _=>.head) (fun _=>Z) (fun w h=>tR) ?_))))))))
 rintro ⟨⟩ _
 try dsimp only
 refine oj (mv Z Z (oj (ext Z Z Z (oj (ext Z Z Z (oj (Ak Z Z (oj (Ak Z Z (on (qn (Ab (Ab (Aa (oj (mv Z Z (oj (not Z Z (on (qn (Ap Z (fun ht=>(Aa ?_)) (fun hf=>absurd hf (by simp)))))))))))))))))))))))
 refine oj (mv Z Z (oj (mv Z Z (oj (Bn Z Z Tryz.underlying53 Z (oj (Hl Z Z (.cons Z (.cons Z .nil)) fb_214 (.refl _) (bgrow_nil q xs.length h0 h64) (fun w h=>tR) ?_)))))))
 rintro g _
 try dsimp only
 refine oj (Ak Z Z (on (qn (Ab (Aa (oj (mv Z Z (oj (Cq Z Z (oj (A2 (o':=0) Z Z C2 Bt Z (oj (Bh Z Z Bt (.tail _ (.head _)) (Z) (oj (mv Z Z (oj (slc (l':=0) Z Z Tryz.underlying53 Bv Z Z (.inl Z) ⟨_,Z,by omega⟩ (Ac (d:=29) (v:=.slice (some ⟨g,0,none⟩) xs.length (64-0)) Z (by simp [Addr.add]) (oj (mv Z Z (oj (cpL (r:=g) (o:=0) (dl:=xs.length) (dc:=64-0) (m:=xs.length) (n:=xs.length) (sz:=1) (xv:=.slice sa xs.length sc) (news:=An xs) (cur:=flat [zby 64]) _ Z Z Z Tryz.underlying53 Bv .head (by show xs.length=min xs.length xs.length; omega) (fun w ho h=>(Sl.src (h.2.2.1)).n) (by show 0+xs.length*1≤64; omega) Z (oj (Ak Z Z (oj (Ak Z Z ?_))))))))))))))))))))))))))
 exact on (qn (Af (As (g,_,64) Z (.tmp Z (.tmp Z .nil)) Z ⟨by simpa using BfS.app (bs:=[]) (xs:=xs) (g:=g) (c:=64) (cur:=flat [zby 64]) rfl (by simpa using h64) (by decide) rfl,Z⟩ (.refl _) (fun w h=>tR) (.inl Z))))
theorem bwrite_fit (q:Nat) (bs:List UInt8) (g:BfT) (hg:BfS bs g) (xs:List UInt8) (sa:Option Addr) (sc:Nat) (h0:0 < xs.length) (hfit:bs.length+xs.length≤g.2.2):Ay Tryz.prog 160 [Bg q 0,.slice sa xs.length sc] (bfL q bs g) (fun w=>Sl 1 xs.length (An xs) (.slice sa xs.length sc) w∧True) (fun k:BfT=>⟨BfS (bs++xs) k∧k.2.2=g.2.2,.tuple #[iv xs.length,.nilIface],bfL q (bs++xs) k,fun _=>True⟩):=by
 refine Aj Tryz.func160 Z Z fun X w0=>?_
 obtain ⟨g,cur,c⟩:=g
 obtain ⟨g1,g2,g3,g4⟩:=hg
 try dsimp only at g1 g2 g3 g4 hfit
 try dsimp only
 refine Ab (Aa (oj (Ak Z Z (oj (Ak Z Z (on (qn (Ab (Aa (oj (mv Z Z (oj (Cq Z Z (oj (A2 (o':=2) Z Z fld_222_2 ty_220 Z (oj (Cr Z Z ty_220 Z (.tail .head) (.tail (.tail (.head Z))) Z (on (qn (Ab (Aa ?_)))))))))))))))))))))
 refine oj (mv Z Z (oj (mv Z Z (oj (Bn Z Z Tryz.underlying53 Z (oj (Ce Z Z (.cons Z (.cons Z .nil)) fb_213 (btry_ok q g bs.length c xs.length hfit g3) (fun _=>(.tail .head)) (fun _=>Z) (fun w h=>tR) ?_)))))))
 rintro ⟨⟩ _
 try dsimp only
 refine oj (mv Z Z (oj (ext Z Z Z (oj (ext Z Z Z (oj (Ak Z Z (oj (Ak Z Z (on (qn (Ab (Ab (Aa (oj (mv Z Z (oj (not Z Z (on (qn (Ap Z (fun ht=>absurd ht (by simp)) (fun hf=>(Ah ?_)))))))))))))))))))))))
 refine qn (Ab (Aa (oj (mv Z Z (oj (Cq Z Z (oj (A2 (o':=0) Z Z C2 Bt Z (oj (Bh Z Z Bt (.tail _ (.head _)) (Z) (oj (mv Z Z (oj (slc (l':=bs.length) Z Z Tryz.underlying53 Bv Z Z (.inl Z) ⟨_,Z,by omega⟩ (Ac (d:=29) (v:=.slice (some ⟨g,bs.length,none⟩) xs.length (c-bs.length)) Z (by rw [if_neg (by omega),Nat.add_sub_cancel_left]; show Value.slice (some (Addr.add ⟨g,0,none⟩ (bs.length*1))) _ _=_; rw [ad0]) (oj (mv Z Z (oj (cpL (r:=g) (o:=bs.length) (dl:=xs.length) (dc:=c-bs.length) (m:=xs.length) (n:=xs.length) (sz:=1) (xv:=.slice sa xs.length sc) (news:=An xs) (cur:=cur) _ Z Z Z Tryz.underlying53 Bv .head (by show xs.length=min xs.length xs.length; omega) (fun w ho h=>(Sl.src (h.2.1)).n) (by omega) Z (oj (Ak Z Z (oj (Ak Z Z (on (qn ?_)))))))))))))))))))))))))
 refine Af ?_
 have hbx:(bs++xs).length=bs.length+xs.length:=List.length_append
 rw [← hbx]
 exact As (g,_,c) Z (.tmp Z (.tmp Z .nil)) Z ⟨BfS.app g1 hfit g3 g4,Z⟩ (.refl _) (fun w h=>tR) (.inl Z)
theorem bwrite_big (q:Nat) (bs:List UInt8) (g:BfT) (hg:BfS bs g) (xs:List UInt8) (sa:Option Addr) (sc:Nat) (h0:0 < xs.length) (hb0:0 < bs.length) (hc:g.2.2≤1000000) (hk:bs.length+xs.length≤1000000) (h1:g.2.2 < bs.length+xs.length) (h2:g.2.2 < 2*(bs.length+xs.length)):Ay Tryz.prog 160 [Bg q 0,.slice sa xs.length sc] (bfL q bs g) (fun w=>Sl 1 xs.length (An xs) (.slice sa xs.length sc) w∧True) (fun k:BfT=>⟨BfS (bs++xs) k,.tuple #[iv xs.length,.nilIface],bfL q (bs++xs) k,fun _=>True⟩):=by
 refine Aj Tryz.func160 Z Z fun X w0=>?_
 have ho:=hg.own
 obtain ⟨g,cur,c⟩:=g
 obtain ⟨g1,g2,g3,g4⟩:=hg
 try dsimp only at g1 g2 g3 g4 hc h1 h2 ho
 try dsimp only
 refine Ab (Aa (oj (Ak Z Z (oj (Ak Z Z (on (qn (Ab (Aa (oj (mv Z Z (oj (Cq Z Z (oj (A2 (o':=2) Z Z fld_222_2 ty_220 Z (oj (Cr Z Z ty_220 Z (.tail .head) (.tail (.tail (.head Z))) Z (on (qn (Ab (Aa ?_)))))))))))))))))))))
 refine oj (mv Z Z (oj (mv Z Z (oj (Bn Z Z Tryz.underlying53 Z (oj (Ce Z Z (.cons Z (.cons Z .nil)) fb_213 (btry_no q (some ⟨g,0,none⟩) bs.length c xs.length h1 (by omega) g3) (fun _=>(.tail .head)) (fun _=>Z) (fun w h=>tR) ?_)))))))
 rintro ⟨⟩ _
 try dsimp only
 refine oj (mv Z Z (oj (ext Z Z Z (oj (ext Z Z Z (oj (Ak Z Z (oj (Ak Z Z (on (qn (Ab (Ab (Aa (oj (mv Z Z (oj (not Z Z (on (qn (Ap Z (fun ht=>(Aa ?_)) (fun hf=>absurd hf (by simp)))))))))))))))))))))))
 refine oj (mv Z Z (oj (mv Z Z (oj (Bn Z Z Tryz.underlying53 Z (oj (Hl Z Z (.cons Z (.cons Z .nil)) fb_214 (.swap _ _ _) (bgrow_big q g c bs _ ho xs.length h0 hb0 g2 hc hk h1 h2) (fun w h=>tR) ?_)))))))
 rintro ⟨k,cur2,c2⟩ ⟨e1,e2,e3,e4⟩
 try dsimp only at e1 e2 e3 e4
 try dsimp only
 refine oj (Ak Z Z (on (qn (Ab (Aa (oj (mv Z Z (oj (Cq Z Z (oj (A2 (o':=0) Z Z C2 Bt Z (oj (Bh Z Z Bt (.head _) (Z) (oj (mv Z Z (oj (slc (l':=bs.length) Z Z Tryz.underlying53 Bv Z Z (.inl Z) ⟨_,Z,by omega⟩ (Ac (d:=29) (v:=.slice (some ⟨k,bs.length,none⟩) xs.length (c2-bs.length)) Z (by rw [if_neg (by omega),Nat.add_sub_cancel_left]; show Value.slice (some (Addr.add ⟨k,0,none⟩ (bs.length*1))) _ _=_; rw [ad0]) (oj (mv Z Z (oj (cpL (r:=k) (o:=bs.length) (dl:=xs.length) (dc:=c2-bs.length) (m:=xs.length) (n:=xs.length) (sz:=1) (xv:=.slice sa xs.length sc) (news:=An xs) (cur:=cur2) _ Z Z Z Tryz.underlying53 Bv (.tail .head) (by show xs.length=min xs.length xs.length; omega) (fun w ho h=>(Sl.src (h.2.2.1)).n) (by omega) Z (oj (Ak Z Z (oj (Ak Z Z ?_))))))))))))))))))))))))))
 refine on (qn (Af ?_))
 have hbx:(bs++xs).length=bs.length+xs.length:=List.length_append
 rw [← hbx]
 exact Cn (List.Perm.swap _ _ _) (As (k,_,c2) Z (.tmp Z (.tmp Z .nil)) Z (BfS.app e1 e3 (by simp only [maxLen] at e2; omega) e4) (.refl _) (fun w h=>tR) (.inl Z))
theorem bbytes_spec (q g n c:Nat):Ay Tryz.prog 215 [Bg q 0] [bfE q (some ⟨g,0,none⟩) n c] (fun _=>True) (fun _:Unit=>⟨True,.slice (some ⟨g,0,none⟩) n c,[bfE q (some ⟨g,0,none⟩) n c],fun _=>True⟩):=by
 refine Aj Tryz.func215 Z Z fun X w0=>(Ab (Aa (oj (Ak Z Z (on (qn (Ab (A5 mo (A3 [0,1,2,3,4,5,6,7] (fun _=>false) (by kernel_rfl) Z Z (.det _ (fun Q K R m k=>(mv Z Z k)) (.det _ (fun Q K R m k=>(Cq Z Z k)) (.det _ (fun Q K R m k=>(A2 (o':=0) Z Z C2 Bt Z k)) (.det _ (fun Q K R m k=>(Bh Z Z Bt (.head _) (Z) k)) (.det _ (fun Q K R m k=>(mv Z Z k)) (.det _ (fun Q K R m k=>(Cq Z Z k)) (.det _ (fun Q K R m k=>(A2 (o':=1) Z Z I5 Ai Z k)) ?_))))))))))))))))
 exact .det _ (fun Q K R m k=>(Bh Z Z Ai (.head _) (Z) k)) (.nil (Ad 8 ((slc (l':=0) Z Z Tryz.underlying53 Bv Z Z (.inl Z) ⟨_,Z,by omega⟩ (Ac (d:=11) (v:=.slice (some ⟨g,0,none⟩) n c) Z (by simp [Addr.add]) (Ad 9 ((Ak Z Z (A6 (qn (Af (As () Z (.tmp Z .nil) Z tR (.refl _) (fun w h=>tR) (.inl Z)))))))))))))
theorem bwrite_any (q:Nat) (bs:List UInt8) (g:BfT) (hg:BfS bs g) (xs:List UInt8) (sa:Option Addr) (sc:Nat) (h0:0 < xs.length) (hb0:0 < bs.length) (hc:g.2.2≤1000000) (hk:bs.length+xs.length≤1000000) (h2:g.2.2 < 2*(bs.length+xs.length)) :
  Ay Tryz.prog 160 [Bg q 0,.slice sa xs.length sc] (bfL q bs g) (fun w=>Sl 1 xs.length (An xs) (.slice sa xs.length sc) w∧True) (fun k:BfT=>⟨BfS (bs++xs) k,.tuple #[iv xs.length,.nilIface],bfL q (bs++xs) k,fun _=>True⟩):=by
 by_cases h:bs.length+xs.length≤g.2.2
 ·exact Je (bwrite_fit q bs g hg xs sa sc h0 h) fun k hk=>⟨k,hk.1,Z,Z,fun _ h=>h⟩
 ·exact bwrite_big q bs g hg xs sa sc h0 hb0 hc hk (by omega) h2
theorem Iw (ky:Dig):0 < ky.b.length∧ky.b.length≤64:=by rw [ky.h]; decide
theorem ikey_nil (q:Nat) (ky:Dig):Ay Tryz.prog 159 [Bg q 0,dv ky] [bfE q none 0 0] (fun _=>True) (fun g:BfT=>⟨BfS ky.b g∧g.2.2=64,Bg q 0,bfL q ky.b g,fun _=>True⟩):=by
 refine Aj Tryz.func159 Z Z fun X w0=>(Ab (Aa (oj (Gx Z Z (fun r3=>(Al (Am 0 _ _ Z) ?_))))))
 try dsimp only [List.eraseIdx]
 refine oj (Ak Z Z (on (qn (Ab (A5 mo (A3 [0,1,2,3] (fun _=>false) (by kernel_rfl) Z Z (.det _ (fun Q K R m k=>(mv Z Z k)) (.det _ (fun Q K R m k=>(Cq Z Z k)) (.det _ (fun Q K R m k=>(A2 (o':=0) Z Z Kn ty_222 Z k)) (.det (.slice (some ⟨r3,0,none⟩) ky.b.length 32) (fun Q K R m k=>(slp Z Z Tryz.underlying67 Bv Z Z (.inl Z) Z (B8 (by rw [ky.h]; simp [Addr.add]) k))) (.nil (Ad 4 ((Hl Z Z (.cons Z (.cons Z .nil)) fb_160 (.refl _) (bwrite_nil q ky.b (some ⟨r3,0,none⟩) 32 (Iw ky).1 (Iw ky).2) (fun w h=>⟨Gs (h.1.1),tR⟩) ?_))))))))))))))
 rintro g hg
 try dsimp only
 exact A6 (qn (Ab (Aa (oj (mv Z Z (oj (Ak Z Z (on (qn (Af (As g Z (.tmp Z .nil) Z hg (.refl _) (fun w h=>tR) (.inl Z))))))))))))
theorem ikey_fit (q:Nat) (bs:List UInt8) (g:BfT) (hg:BfS bs g) (ky:Dig) (hfit:bs.length+32≤g.2.2):Ay Tryz.prog 159 [Bg q 0,dv ky] (bfL q bs g) (fun _=>True) (fun j:BfT=>⟨BfS (bs++ky.b) j∧j.2.2=g.2.2,Bg q 0,bfL q (bs++ky.b) j,fun _=>True⟩):=by
 refine Aj Tryz.func159 Z Z fun X w0=>(Ab (Aa (oj (Gx Z Z (fun r3=>(Al (Am 0 _ _ Z) ?_))))))
 try dsimp only [List.eraseIdx]
 refine oj (Ak Z Z (on (qn (Ab (A5 mo (A3 [0,1,2,3] (fun _=>false) (by kernel_rfl) Z Z (.det _ (fun Q K R m k=>(mv Z Z k)) (.det _ (fun Q K R m k=>(Cq Z Z k)) (.det _ (fun Q K R m k=>(A2 (o':=0) Z Z Kn ty_222 Z k)) (.det (.slice (some ⟨r3,0,none⟩) ky.b.length 32) (fun Q K R m k=>(slp Z Z Tryz.underlying67 Bv Z Z (.inl Z) Z (B8 (by rw [ky.h]; simp [Addr.add]) k))) (.nil (Ad 4 ((Hl Z Z (.cons Z (.cons Z .nil)) fb_160 (.refl _) (bwrite_fit q bs g hg ky.b (some ⟨r3,0,none⟩) 32 (Iw ky).1 (by rw [ky.h]; exact hfit)) (fun w h=>⟨Gs (h.1.1),tR⟩) ?_))))))))))))))
 rintro j hj
 try dsimp only
 exact A6 (qn (Ab (Aa (oj (mv Z Z (oj (Ak Z Z (on (qn (Af (As j Z (.tmp Z .nil) Z hj (.refl _) (fun w h=>tR) (.inl Z))))))))))))
theorem ikey_any (q:Nat) (bs:List UInt8) (g:BfT) (hg:BfS bs g) (ky:Dig) (hb0:0 < bs.length) (hb1:bs.length≤100000) (hc:g.2.2≤1000000) (h2:g.2.2 < 2*(bs.length+32)):Ay Tryz.prog 159 [Bg q 0,dv ky] (bfL q bs g) (fun _=>True) (fun j:BfT=>⟨BfS (bs++ky.b) j,Bg q 0,bfL q (bs++ky.b) j,fun _=>True⟩):=by
 refine Aj Tryz.func159 Z Z fun X w0=>(Ab (Aa (oj (Gx Z Z (fun r3=>(Al (Am 0 _ _ Z) ?_))))))
 try dsimp only [List.eraseIdx]
 refine oj (Ak Z Z (on (qn (Ab (A5 mo (A3 [0,1,2,3] (fun _=>false) (by kernel_rfl) Z Z (.det _ (fun Q K R m k=>(mv Z Z k)) (.det _ (fun Q K R m k=>(Cq Z Z k)) (.det _ (fun Q K R m k=>(A2 (o':=0) Z Z Kn ty_222 Z k)) (.det (.slice (some ⟨r3,0,none⟩) ky.b.length 32) (fun Q K R m k=>(slp Z Z Tryz.underlying67 Bv Z Z (.inl Z) Z (B8 (by rw [ky.h]; simp [Addr.add]) k))) (.nil (Ad 4 ((Hl Z Z (.cons Z (.cons Z .nil)) fb_160 (.refl _) (bwrite_any q bs g hg ky.b (some ⟨r3,0,none⟩) 32 (Iw ky).1 hb0 hc (by rw [ky.h]; omega) (by rw [ky.h]; exact h2)) (fun w h=>⟨Gs (h.1.1),tR⟩) ?_))))))))))))))
 rintro j hj
 try dsimp only
 exact A6 (qn (Ab (Aa (oj (mv Z Z (oj (Ak Z Z (on (qn (Af (As j Z (.tmp Z .nil) Z hj (.refl _) (fun w h=>tR) (.inl Z))))))))))))
theorem iunder_spec (q:Nat) (bs:List UInt8) (g:BfT) (hg:BfS bs g) (tag:List UInt8) (ht:tag.length≤1000000) (hn:bs.length≤1000000):Ay Tryz.prog 161 [Bg q 0,.string (Iq tag)] (bfL q bs g) (fun w=>De 1 (Av .u32 B9) w∧De 3 (Av .u32 D1) w∧True) (fun _:Unit=>⟨True,dv (E2 tag bs),[],fun _=>True⟩):=by
 refine Aj Tryz.func161 Z Z fun X w0=>(Ab (Aa (oj (C7 Z Ge (fun r4=>(on (qn (Ab (Aa (oj (mv Z Z (oj (mv Z Z (oj (Cq Z Z (oj (A2 (o':=0) Z Z Kn ty_222 Z (oj (Ce Z Z (.cons Z .nil) fb_215 (bbytes_spec q g.1 bs.length g.2.2) (fun _=>(.tail (.tail .head))) (fun _=>Z) (fun w h=>tR) ?_)))))))))))))))))))
 rintro ⟨⟩ _
 try dsimp only
 refine By (i:=1) Z hg.own (Co _) ?_
 try dsimp only [List.eraseIdx]
 exact oj (Ao Z Z (.cons Z (.cons Z .nil)) fb_99 (G0 (Iq tag) (by simpa using ht) bs (some ⟨g.1,0,none⟩) g.2.2 hg.n (by omega))  (fun w h=>⟨(h.1.1),(h.2.2.1),(Cu h),tR⟩) Z (fun _=>(Ae (fun w h=>h.2) (Ac (d:=10) (v:=dv (E2 tag bs)) Z (by simp) (oj (Cf Z Z Bb Z .head (.head Z) Z (on (qn (Af (As () Z (Hk Z Bb (.head _) Z .nil) Z tR (Bl _) (fun w h=>tR) (.inl Z)))))))))))
end Go.Chx
