/- Part of the proof that the law CommitsMembers holds. -/
import Derived.Test.YtegbaopejhpnkaaGreatDoorAa
import Derived.Test.YtegbaopejhpnkaaGreatDoorAh
import Derived.Test.YtegbaopejhpnkaaGreatDoorAs
import Derived.Test.YtegbaopejhpnkaaGreatDoorAu
namespace Go.Chx
open Go Go.Proofs
set_option maxHeartbeats 1000000
set_option maxRecDepth 4000
def mwB (g:Gp) (m:Mb):Bool:=decide (m.s < 1) || decide (m.s > g.epoch) || !el m.v
def Kt (g:Gp):Prop:=0≤g.folder∧g.folder < 16∧0≤g.epoch∧g.epoch≤1099511627776∧Fu g.tr.l∧(g.epoch=0→g.ms=[]∧g.last=Dig.zero)∧eqF (fun (m:Mb) d=>decide (m.d=d)) g.ms (Ga g.tr.l)=true∧g.ms.any (mwB g)=false
open Classical in
noncomputable def vlB (g:Gp):Bool:=decide (Kt g)
theorem vlB_t {g:Gp} (h:Kt g):vlB g=true:=by unfold vlB; simp [h]
theorem vlB_f {g:Gp} (h : ¬ Kt g):vlB g=false:=by unfold vlB; simp [h]
theorem elE_ne {a:Int}:(elE a != 0) = !el a:=by cases h:el a <;> simp [elE,h]
theorem compact_sorted {zs:List Int} (h:zs.Pairwise (·≤·)):(Lib.compact zs).Pairwise (· < ·):=by
 unfold Lib.compact Lib.compactUpTo
 rw [List.pairwise_map]
 have h1:((List.range zs.length).filter (Lib.keeps zs.toArray)).Pairwise (· < ·):=List.pairwise_lt_range.filter _
 refine h1.imp_of_mem fun {i j} hi hj hij=>?_
 obtain ⟨hi1,hi2⟩:=List.mem_filter.1 hi
 obtain ⟨hj1,hj2⟩:=List.mem_filter.1 hj
 have hi3:=List.mem_range.1 hi1
 have hj3:=List.mem_range.1 hj1
 unfold Lib.keeps at hj2
 simp only [decide_eq_true_eq] at hj2
 have hj4:zs.toArray[j]!≠zs.toArray[j-1]!:=hj2.resolve_left (by omega)
 have e1:zs.toArray[i]! = zs[i]:=by simp [hi3]
 have e2:zs.toArray[j]! = zs[j]:=by simp [hj3]
 have e3:zs.toArray[j-1]! = zs[j-1]'(by omega):=by simp [show j-1 < zs.length by omega]
 rw [e1,e2]
 rw [e2,e3] at hj4
 rw [List.pairwise_iff_getElem] at h
 have h2:=h (j-1) j (by omega) hj3 (by omega)
 have h3:zs[i]≤zs[j-1]'(by omega):=by
  rcases Nat.lt_or_ge i (j-1) with h4 | h4
  ·exact h i (j-1) hi3 (by omega) h4
  ·have:i=j-1:=by omega
   subst this; omega
 omega
theorem memL_sorted (l:List (Int × Int)):(Ga l).Pairwise (· < ·):=by
 refine compact_sorted ?_
 have h1:=List.pairwise_mergeSort (le:=fun x y:Int=>decide (x≤y)) (fun a b c h1 h2=>by simp at *; omega) (fun a b=>by simp; omega) (memA l)
 exact h1.imp fun h=>by simpa using h
theorem eqF_map {ms:List Mb} {ds:List Int} (h:eqF (fun (m:Mb) d=>decide (m.d=d)) ms ds=true):ms.map (·.d)=ds:=by
 unfold eqF at h
 rw [Bool.and_eq_true] at h
 have hl:ms.length=ds.length:=by simpa using h.1
 apply List.ext_getElem?
 intro i
 rw [List.getElem?_map]
 by_cases hi:i < ms.length
 ·rw [List.getElem?_eq_getElem hi,List.getElem?_eq_getElem (by omega)]
  have:=List.all_eq_true.1 h.2 (ms[i],ds[i]'(by omega)) (List.mem_of_getElem? (i:=i) (by rw [List.getElem?_zip_eq_some]; exact ⟨List.getElem?_eq_getElem hi,List.getElem?_eq_getElem (by omega)⟩))
  simp only [decide_eq_true_eq] at this
  simp [this]
 ·rw [List.getElem?_eq_none (by omega),List.getElem?_eq_none (by omega)]; rfl
theorem Kt.ms {g:Gp} (h:Kt g):MsS g.ms:=by
 have h1:=eqF_map (Ec h)
 have h2:=memL_sorted g.tr.l
 rw [← h1,List.pairwise_map] at h2
 exact h2
theorem Dig_ext {a b:Dig} (h:a.b=b.b):a=b:=by cases a; cases b; simp at h; subst h; rfl
theorem valid1_spec (g:Gp) (r:Nat) (x:Mb):Ay Tryz.prog 115 [av x.segs,Bg r 0] [] (fun w=>Bc r g.segs 29 w∧True) (fun _:Unit=>⟨True,.bool (mwB g x),[],fun _=>True⟩):=by
 refine Aj Tryz.func115 Z Z fun X w0=>(Ab (Aa (oj (C6 Z Z (fun r2=>(oj (Ak Z Z (on (qn (Ab (Aa (oj (A2 (o':=1) Z Z fld_45_1 Ai Z (oj (Bh Z Z Ai (.head _) (Z) (oj (Dd Z Z Z (oj (mv Z Z ?_)))))))))))))))))))
 refine B5 (d:=7) Z (fun h1=>?_) (fun h1=>?_)
 ·refine oj (gf Z Z Z Z Z Z (oj (gf Z Z Z Z Z Z (oj (gf Z Z Z Z Z Z (oj (gf Z Z Z Z Z Z (oj (gf Z Z Z Z Z Z (oj (Cl Z Z Z (oj (mv Z Z (oj (gf Z Z Z Z Z Z (oj (gf Z Z Z Z Z Z (oj (gf Z Z Z Z Z Z (oj (gf Z Z Z Z Z Z (oj (Cl Z Z Z (oj (Ak Z Z (on (qn (Af ?_))))))))))))))))))))))))))))
  exact Ac (d:=3) (v:=.bool (mwB g x)) Z (by unfold mwB; simp_all) (As () Z (.tmp Z .nil) Z tR (Bl _) (fun w h=>tR) (.inl Z))
 ·refine oj (gt Z Z Z ((A2 (o':=1) Z Z fld_45_1 Ai Z (oj (gt Z Z Z ((Bh Z Z Ai (.head _) (Z) (oj (gt Z Z Z ((A2 (o':=1) Z Z F3 Ai Z (oj (gt Z Z Z ((A4 Z Z Ai (fun w h=>Bc.at1 (h.1) Z) (oj (gt Z Z Z ((gti Z Z Z (oj (Df Z Z Z (oj (mv Z Z ?_)))))))))))))))))))))))
  refine B5 (d:=14) Z (fun h2=>?_) (fun h2=>?_)
  ·exact oj (gf Z Z Z Z Z Z (oj (gf Z Z Z Z Z Z (oj (gf Z Z Z Z Z Z (oj (gf Z Z Z Z Z Z (oj (Cl Z Z Z (oj (Ak Z Z (on (qn (Af (Ac (d:=3) (v:=.bool (mwB g x)) Z (by unfold mwB; simp_all) (As () Z (.tmp Z .nil) Z tR (Bl _) (fun w h=>tR) (.inl Z)))))))))))))))))
  ·exact oj (gt Z Z Z ((A2 (o':=2) Z Z fld_45_2 Ai Z (oj (gt Z Z Z ((Bh Z Z Ai (.head _) (Z) (oj (gt Z Z Z ((Ao Z Z (.cons Z .nil) J2 (Dq x.v)  (fun w h=>tR) Z (fun _=>(Ae (fun w h=>h.2) (oj (gt Z Z Z ((G2 Z Z Z (oj (Df Z Z Z (oj (Ak Z Z (on (qn (Af (Ac (d:=3) (v:=.bool (mwB g x)) Z (by unfold mwB; rw [elE_ne,decide_eq_false h1,decide_eq_false h2]; rfl) (As () Z (.tmp Z .nil) Z tR (Bl _) (fun w h=>tR) (.inl Z)))))))))))))))))))))))))))
theorem valid2_spec (x:Mb) (d:Int):Ay Tryz.prog 116 [av x.segs,iv d] [] (fun _=>True) (fun _:Unit=>⟨True,.bool (decide (x.d=d)),[],fun _=>True⟩):=by
 refine Aj Tryz.func116 Z Z fun X w0=>(Ab (Aa (oj (C6 Z Z (fun r2=>(oj (Ak Z Z (on (qn (Ab (Aa (oj (A2 (o':=0) Z Z fld_45_0 Ai Z (oj (Bh Z Z Ai (.head _) (Z) (oj (mv Z Z (oj (Eu Z Z Z (oj (Ak Z Z (on (qn ?_)))))))))))))))))))))))
 exact Af (Ac (d:=4) (v:=.bool (decide (x.d=d))) Z (by rfl) (As () Z (.tmp Z .nil) Z tR (Bl _) (fun w h=>tR) (.inl Z)))
theorem valid_spec (g:Gp) (hl:g.ms.length≤1000000) (htl:g.tr.l.length≤1000000):Ay Tryz.prog 44 [av g.segs] [] (fun w=>GF1 g w∧g.tr.F w∧True) (fun _:Unit=>⟨True,.bool (vlB g),[],fun _=>True⟩):=by
 refine Aj Tryz.func44 Z Z fun X w0=>(Ab (Aa (oj (C6 Z Z (fun r1=>(Al (Am 0 _ _ Z) ?_))))))
 try dsimp only [List.eraseIdx]
 refine oj (Ak Z Z (on (qn (Ab (Ab (Aa (oj (A2 (o':=0) Z Z fld_29_0 Ai Z (oj (A4 Z Z Ai (fun w h=>Bc.at1 h.1.1 Z) (oj (Ao Z Z (.cons Z .nil) fb_66 (isFolder_spec g.folder)  (fun w h=>tR) Z (fun _=>(Ae (fun w h=>h.2) (oj (not Z Z (oj (mv Z Z ?_))))))))))))))))))
 refine Dn (d:=9) Z (fun h1=>?_) (fun h1=>?_)
 ·refine oj (gf Z Z Z Z Z Z (oj (gf Z Z Z Z Z Z (oj (gf Z Z Z Z Z Z (oj (Cl Z Z Z (oj (mv Z Z (oj (gf Z Z Z Z Z Z (oj (gf Z Z Z Z Z Z (oj (gf Z Z Z Z Z Z (oj (Cl Z Z Z (oj (mv Z Z (oj (gf Z Z Z Z Z Z (oj (gf Z Z Z Z Z Z (oj (gf Z Z Z Z Z Z (oj (gf Z Z Z Z Z Z (oj (Cl Z Z Z (on ?_))))))))))))))))))))))))))))))
  refine qn (Ap Z (fun _=>(Ab (Aa (oj (Ak Z Z (on (qn (Af (qr ?_))))))))) (fun h=>by cases h))
  have hb : ¬ Kt g:=fun ⟨v1,v2,v3,v4,v5,v6,v7,v8⟩=>by simp at h1; omega
  exact Ac (d:=2) (v:=.bool (vlB g)) Z (by rw [vlB_f hb]) (As () Z (.tmp Z .nil) Z tR .slnil (fun w h=>tR) (.inl Z))
 ·refine oj (gt Z Z Z ((A2 (o':=1) Z Z F3 Ai Z (oj (gt Z Z Z ((A4 Z Z Ai (fun w h=>Bc.at1 h.1.1 Z) (oj (gt Z Z Z ((Dd Z Z Z (oj (Df Z Z Z (oj (mv Z Z ?_)))))))))))))))
  refine B5 (d:=14) Z (fun h2=>?_) (fun h2=>?_)
  ·refine oj (gf Z Z Z Z Z Z (oj (gf Z Z Z Z Z Z (oj (gf Z Z Z Z Z Z (oj (Cl Z Z Z (oj (mv Z Z (oj (gf Z Z Z Z Z Z (oj (gf Z Z Z Z Z Z (oj (gf Z Z Z Z Z Z (oj (gf Z Z Z Z Z Z (oj (Cl Z Z Z (on (qn (Ap Z (fun _=>(Ab (Aa (oj (Ak Z Z ?_))))) (fun h=>by cases h)))))))))))))))))))))))
   refine on (qn (Af (qr ?_)))
   have hb : ¬ Kt g:=fun ⟨v1,v2,v3,v4,v5,v6,v7,v8⟩=>by omega
   exact Ac (d:=2) (v:=.bool (vlB g)) Z (by rw [vlB_f hb]) (As () Z (.tmp Z .nil) Z tR .slnil (fun w h=>tR) (.inl Z))
  ·refine oj (gt Z Z Z ((A2 (o':=1) Z Z F3 Ai Z (oj (gt Z Z Z ((A4 Z Z Ai (fun w h=>Bc.at1 h.1.1 Z) (oj (gt Z Z Z ((gti Z Z Z (oj (Df Z Z Z (oj (mv Z Z ?_)))))))))))))))
   refine B5 (d:=19) Z (fun h3=>?_) (fun h3=>?_)
   ·refine oj (gf Z Z Z Z Z Z (oj (gf Z Z Z Z Z Z (oj (gf Z Z Z Z Z Z (oj (gf Z Z Z Z Z Z (oj (Cl Z Z Z (on (qn (Ap Z (fun _=>(Ab (Aa (oj (Ak Z Z (on (qn (Af (qr ?_))))))))) (fun h=>by cases h)))))))))))))
    have hb : ¬ Kt g:=fun ⟨v1,v2,v3,v4,v5,v6,v7,v8⟩=>by omega
    exact Ac (d:=2) (v:=.bool (vlB g)) Z (by rw [vlB_f hb]) (As () Z (.tmp Z .nil) Z tR .slnil (fun w h=>tR) (.inl Z))
   ·refine oj (gt Z Z Z ((A2 (o':=35) Z Z Ia B1 Z (oj (gt Z Z Z ((D4 Z Z B1 Z (fun w h=>Bc.atS h.1.1 Z) (oj (gt Z Z Z ((Ao Z Z (.cons Z .nil) fb_114 (Gz g.tr htl)  (fun w h=>⟨(h.2.2.1),tR⟩) Z (fun _=>(Ae (fun w h=>h.2) (oj (gt Z Z Z ((G2 Z Z Z (oj (Df Z Z Z (on (qn ?_)))))))))))))))))))))
    refine C5 Z (fun h4=>?_) (fun h4=>?_)
    ·refine Ab (Aa (oj (Ak Z Z (on (qn (Af (qr ?_)))))))
     have hb : ¬ Kt g:=fun ⟨v1,v2,v3,v4,v5,v6,v7,v8⟩=>h4 (tkE_ok v5)
     exact Ac (d:=2) (v:=.bool (vlB g)) Z (by rw [vlB_f hb]) (As () Z (.tmp Z .nil) Z tR .slnil (fun w h=>tR) (.inl Z))
    ·refine Ah (qn (Ab (Ab (Aa (oj (A2 (o':=1) Z Z F3 Ai Z (oj (A4 Z Z Ai (fun w h=>Bc.at1 h.1.1 Z) (oj (Eu Z Z Z (oj (mv Z Z ?_))))))))))))
     refine Kh (d:=28) Z (fun h5=>?_) (fun h5=>?_)
     ·refine oj (gt Z Z Z ((A2 (o':=34) Z Z Dg Dl Z (oj (gt Z Z Z ((A4 Z Z Dl (fun w h=>Bc.at1 h.1.1 Z) (oj (gt Z Z Z ((Bn Z Z Tryz.underlying24 Z (oj (gt Z Z Z ((gti Z Z Z (oj (gt Z Z Z ((mv Z Z ?_)))))))))))))))))))
      refine B5 (d:=33) Z (fun h6=>?_) (fun h6=>?_)
      ·refine oj (gf Z Z Z Z Z Z (oj (gf Z Z Z Z Z Z (oj (gf Z Z Z Z Z Z (oj (gf Z Z Z Z Z Z (oj (gt Z Z Z ((Cl Z Z Z (oj (Cl Z Z Z (on (qn (Ap Z (fun _=>(Ab (Aa (oj (Ak Z Z (on (qn (Af ?_)))))))) (fun h=>by cases h)))))))))))))))))
       refine qr ?_
       have hb : ¬ Kt g:=fun ⟨v1,v2,v3,v4,v5,v6,v7,v8⟩=>by rw [(v6 h5).1] at h6; exact absurd h6 (by simp)
       exact Ac (d:=2) (v:=.bool (vlB g)) Z (by rw [vlB_f hb]) (As () Z (.tmp Z .nil) Z tR .slnil (fun w h=>tR) (.inl Z))
      ·refine oj (gt Z Z Z ((A2 (o':=2) Z Z fld_29_2 Dc Z (oj (gt Z Z Z ((D4 Z Z Dc (sd _).h (fun w h=>Bc.atS h.1.1 Z) (Ac (d:=35) (v:=.agg (Av .u8 (g.last.b.map fun b=>(b.toNat:Int))).toArray) Z (by show Value.agg (An g.last.b).toArray=_; rw [D9]) (oj (gt Z Z Z ((bdzA Z Tryz.underlying23 Bv Jb (Ac (d:=36) (v:=.agg (Av .u8 (Dig.zero.b.map fun b=>(b.toNat:Int))).toArray) Z (by show Value.agg (An Dig.zero.b).toArray=_; rw [D9]) (oj (gt Z Z Z ((nea (k:=.u8) (xs:=(g.last.b.map fun b=>(b.toNat:Int))) (ys:=(Dig.zero.b.map fun b=>(b.toNat:Int))) Z Z Z Tryz.underlying23 Tryz.underlying5 Bv eg_23 (by rw [List.length_map]; exact g.last.h) (by rw [List.length_map]; exact Dig.zero.h) (oj (gt Z Z Z ((Df Z Z Z (oj (Cl Z Z Z (on (qn ?_)))))))))))))))))))))))))
       refine Ap Z (fun h7=>?_) (fun h7=>?_)
       ·refine Ab (Aa (oj (Ak Z Z (on (qn (Af (qr ?_)))))))
        have hb : ¬ Kt g:=fun ⟨v1,v2,v3,v4,v5,v6,v7,v8⟩=>by have h8:=dig_eq g.last Dig.zero; rw [(v6 h5).2] at h7; simp at h7
        exact Ac (d:=2) (v:=.bool (vlB g)) Z (by rw [vlB_f hb]) (As () Z (.tmp Z .nil) Z tR .slnil (fun w h=>tR) (.inl Z))
       ·refine Ah (qn (Ab (Aa (oj (mkF Z .nil (.cons Z .nil) (oj (Ak Z Z (on (qn (Ab (Aa (oj (Ak Z Z (on (qn (Ab (A5 mo (A3 [0,1,2,3,5,4] (fun j=>Nat.beq j 4) (by kernel_rfl) Z Z ?_))))))))))))))))))
        refine .det _ (fun Q K R m k=>(A2 (o':=34) Z Z Dg Dl Z k)) (.det _ (fun Q K R m k=>(A4 Z Z Dl (fun w h=>Bc.at1 h.1.1.1 Z) k)) (.det _ (fun Q K R m k=>(A2 (o':=35) Z Z Ia B1 Z k)) (.det (g.tr.v) (fun Q K R m k=>(D4 Z Z B1 Z (fun w h=>Bc.atS h.1.1.1 Z) (B8 (Z) k))) (.det _ (fun Q K R m k=>(mv Z Z k)) (.gh _ _ _ _ Z (fun Q K R k=>call Z Z (.cons Z .nil) fb_118 (members_spec g.tr htl)  (fun w h=>⟨(h.1.2.2.1),tR⟩) (fun x hx=>Ae (fun w h=>⟨⟨h.1,h.2.1⟩,h.2.2⟩) (k x hx))) (fun _=>by exact ⟨[],by simp⟩) ?_)))))
        rintro ⟨ma,mc⟩ hmc
        try dsimp only at hmc
        try dsimp only [List.nil_append,List.cons_append]
        refine .nil (Ad 6 ((Ao Z Z (.cons Z (.cons Z (.cons Z .nil))) fb_117 (equalf_mi (fun _=>True) g.mA ma g.ms.length g.mC (Ga g.tr.l).length mc g.ms (Ga g.tr.l) Z Z hl 116 [] [] (fun m d=>decide (m.d=d)) fb_116 (fun x _ y _=>valid2_spec x y))  (fun w h=>⟨(h.2.2.1),(h.1.1),tR,tR⟩) Z (fun _=>(Ae (fun w h=>h.2) (Ad 7 ((mv Z Z ?_))))))))
        refine Dn (d:=48) Z (fun h8=>?_) (fun h8=>?_)
        ·refine A3 [8,9,10] (fun _=>false) (by kernel_rfl) Z Z (.det _ (fun Q K R m k=>(gt Z Z Z (A2 (o':=34) Z Z Dg Dl Z k))) (.det _ (fun Q K R m k=>(gt Z Z Z (A4 Z Z Dl (fun w h=>Bc.at1 h.1.2.1.1 Z) k))) (.det _ (fun Q K R m k=>(gt Z Z Z (mv Z Z k))) (.nil (Ad 11 ((gt Z Z Z (Ao Z Z (.cons Z (.cons Z .nil)) fb_119 (containsf_mb (fun w=>Bc r1 g.segs 29 w∧True) g.mA g.ms.length g.mC g.ms Z (by omega) 115 [] [Bg r1 0] (mwB g) fb_115 (fun x _=>valid1_spec g r1 x))  (fun w h=>⟨(h.2.2.1),⟨(h.2.1.1),tR⟩,tR⟩) Z (fun _=>(Ae (fun w h=>h.2) (Ad 12 ((gt Z Z Z (not Z Z (Ad 13 ((Cl Z Z Z (Ad 14 ((Ak Z Z (A6 (qn ?_))))))))))))))))))))))
         refine Af ?_
         refine Ac (d:=2) (v:=.bool (vlB g)) Z (by cases hq:g.ms.any (mwB g) with
          | true=>rw [vlB_f (fun ⟨v1,v2,v3,v4,v5,v6,v7,v8⟩=>by rw [v8] at hq; exact absurd hq (by simp))]; rfl
          | false=>rw [vlB_t ⟨by simp at h1; omega,by simp at h1; omega,by omega,by omega,tkE_iff.1 h4,fun hz=>⟨by cases hm:g.ms with
          | nil=>rfl
          | cons a b=>exact absurd (show ((g.ms.length:Nat):Int) > 0 by rw [hm]; simp) h6,by have h9:=dig_eq g.last Dig.zero; rw [h9] at h7; exact Dig_ext (by simpa using h7)⟩,h8,hq⟩]; rfl) ?_
         exact As () Z (.tmp Z .nil) Z tR .slnil (fun w h=>tR) (.inl Z)
        ·refine A3 [8,9,10] (fun _=>false) (by kernel_rfl) Z Z (.det _ (fun Q K R m k=>(gf Z Z Z Z Z Z k)) (.det _ (fun Q K R m k=>(gf Z Z Z Z Z Z k)) (.det _ (fun Q K R m k=>(gf Z Z Z Z Z Z k)) (.nil (Ad 11 ((gf Z Z Z Z Z Z (Ad 12 ((gf Z Z Z Z Z Z (Ad 13 ((Df Z Z Z (Ad 14 ((Ak Z Z (A6 (qn (Af ?_)))))))))))))))))))
         have hb : ¬ Kt g:=fun ⟨v1,v2,v3,v4,v5,v6,v7,v8⟩=>by rw [v7] at h8; exact absurd h8 (by simp)
         exact Ac (d:=2) (v:=.bool (vlB g)) Z (by rw [vlB_f hb]) (As () Z (.tmp Z .nil) Z tR .slnil (fun w h=>tR) (.inl Z))
     ·refine oj (gf Z Z Z Z Z Z (oj (gf Z Z Z Z Z Z (oj (gf Z Z Z Z Z Z (oj (gf Z Z Z Z Z Z (oj (gf Z Z Z Z Z Z (oj (Gl Z Z Z Z Z (oj (Gl Z Z Z Z Z (oj (Gl Z Z Z Z Z (oj (Gl Z Z Z Z Z (oj (gf Z Z Z Z Z Z (oj (Df Z Z Z (on (qn (Ap Z (fun h=>by cases h) (fun _=>(Ah (qn ?_)))))))))))))))))))))))))))
      refine Ab (Aa (oj (mkF Z .nil (.cons Z .nil) (oj (Ak Z Z (on (qn (Ab (Aa (oj (Ak Z Z (on (qn (Ab (A5 mo (A3 [0,1,2,3,5,4] (fun j=>Nat.beq j 4) (by kernel_rfl) Z Z (.det _ (fun Q K R m k=>(A2 (o':=34) Z Z Dg Dl Z k)) (.det _ (fun Q K R m k=>(A4 Z Z Dl (fun w h=>Bc.at1 h.1.1.1 Z) k)) ?_))))))))))))))))))
      refine .det _ (fun Q K R m k=>(A2 (o':=35) Z Z Ia B1 Z k)) (.det (g.tr.v) (fun Q K R m k=>(D4 Z Z B1 Z (fun w h=>Bc.atS h.1.1.1 Z) (B8 (Z) k))) (.det _ (fun Q K R m k=>(mv Z Z k)) (.gh _ _ _ _ Z (fun Q K R k=>call Z Z (.cons Z .nil) fb_118 (members_spec g.tr htl)  (fun w h=>⟨(h.1.2.2.1),tR⟩) (fun x hx=>Ae (fun w h=>⟨⟨h.1,h.2.1⟩,h.2.2⟩) (k x hx))) (fun _=>by exact ⟨[],by simp⟩) ?_)))
      rintro ⟨ma,mc⟩ hmc
      try dsimp only at hmc
      try dsimp only [List.nil_append,List.cons_append]
      refine .nil (Ad 6 ((Ao Z Z (.cons Z (.cons Z (.cons Z .nil))) fb_117 (equalf_mi (fun _=>True) g.mA ma g.ms.length g.mC (Ga g.tr.l).length mc g.ms (Ga g.tr.l) Z Z hl 116 [] [] (fun m d=>decide (m.d=d)) fb_116 (fun x _ y _=>valid2_spec x y))  (fun w h=>⟨(h.2.2.1),(h.1.1),tR,tR⟩) Z (fun _=>(Ae (fun w h=>h.2) (Ad 7 ((mv Z Z ?_))))))))
      refine Dn (d:=48) Z (fun h8=>?_) (fun h8=>?_)
      ·refine A3 [8,9,10] (fun _=>false) (by kernel_rfl) Z Z (.det _ (fun Q K R m k=>(gt Z Z Z (A2 (o':=34) Z Z Dg Dl Z k))) (.det _ (fun Q K R m k=>(gt Z Z Z (A4 Z Z Dl (fun w h=>Bc.at1 h.1.2.1.1 Z) k))) (.det _ (fun Q K R m k=>(gt Z Z Z (mv Z Z k))) (.nil (Ad 11 ((gt Z Z Z (Ao Z Z (.cons Z (.cons Z .nil)) fb_119 (containsf_mb (fun w=>Bc r1 g.segs 29 w∧True) g.mA g.ms.length g.mC g.ms Z (by omega) 115 [] [Bg r1 0] (mwB g) fb_115 (fun x _=>valid1_spec g r1 x))  (fun w h=>⟨(h.2.2.1),⟨(h.2.1.1),tR⟩,tR⟩) Z (fun _=>(Ae (fun w h=>h.2) (Ad 12 ((gt Z Z Z (not Z Z (Ad 13 ((Cl Z Z Z (Ad 14 ((Ak Z Z (A6 (qn ?_))))))))))))))))))))))
       refine Af ?_
       refine Ac (d:=2) (v:=.bool (vlB g)) Z (by cases hq:g.ms.any (mwB g) with
        | true=>rw [vlB_f (fun ⟨v1,v2,v3,v4,v5,v6,v7,v8⟩=>by rw [v8] at hq; exact absurd hq (by simp))]; rfl
        | false=>rw [vlB_t ⟨by simp at h1; omega,by simp at h1; omega,by omega,by omega,tkE_iff.1 h4,fun hz=>absurd hz h5,h8,hq⟩]; rfl) ?_
       exact As () Z (.tmp Z .nil) Z tR .slnil (fun w h=>tR) (.inl Z)
      ·refine A3 [8,9,10] (fun _=>false) (by kernel_rfl) Z Z (.det _ (fun Q K R m k=>(gf Z Z Z Z Z Z k)) (.det _ (fun Q K R m k=>(gf Z Z Z Z Z Z k)) (.det _ (fun Q K R m k=>(gf Z Z Z Z Z Z k)) (.nil (Ad 11 ((gf Z Z Z Z Z Z (Ad 12 ((gf Z Z Z Z Z Z (Ad 13 ((Df Z Z Z (Ad 14 ((Ak Z Z (A6 (qn (Af ?_)))))))))))))))))))
       have hb : ¬ Kt g:=fun ⟨v1,v2,v3,v4,v5,v6,v7,v8⟩=>by rw [v7] at h8; exact absurd h8 (by simp)
       exact Ac (d:=2) (v:=.bool (vlB g)) Z (by rw [vlB_f hb]) (As () Z (.tmp Z .nil) Z tR .slnil (fun w h=>tR) (.inl Z))
open Classical in
noncomputable def rvL (l:List (Int × Int)) (n:Int):List Int:=if Fu l∧1≤n∧n < 1024 then rsL (ofF l) 11 n else []
open Classical in
noncomputable def rvE (l:List (Int × Int)) (n:Int):Int:=if Fu l then (if 1≤n∧n < 1024 then 0 else 200) else 210
theorem rvE_1 {l:List (Int × Int)} {n:Int} (h:tkE l≠0):tkE l=rvE l n∧rvL l n=[]:=by
 have hn : ¬ Fu l:=fun h2=>h (tkE_ok h2)
 exact ⟨by rw [Hs hn]; unfold rvE; rw [if_neg hn],by unfold rvL; rw [if_neg (fun h2=>hn h2.1)]⟩
theorem rvE_2 {l:List (Int × Int)} {n:Int} (h:tkE l=0) (h2 : ¬ (1≤n∧n < 1024)):rvE l n=200∧rvL l n=[]:=by
 have hk:=tkE_iff.1 h
 exact ⟨by unfold rvE; rw [if_pos hk,if_neg h2],by unfold rvL; rw [if_neg (fun h3=>h2 h3.2)]⟩
theorem rvE_3 {l:List (Int × Int)} {n:Int} (h:tkE l=0) (h2:1≤n∧n < 1024):rvE l n=0∧rvL l n=rsL (ofF l) 11 n:=by
 have hk:=tkE_iff.1 h
 exact ⟨by unfold rvE; rw [if_pos hk,if_pos h2],by unfold rvL; rw [if_pos ⟨hk,h2⟩]⟩
theorem rvL_len (l:List (Int × Int)) (n:Int):(rvL l n).length≤2048:=by
 unfold rvL
 split
 ·exact rsL_len _ 11 n
 ·simp
theorem resn_spec (t:Tr) (hl:t.l.length≤1000000) (n:Int):Ay Tryz.prog 182 [t.v,iv n] [] (fun w=>t.F w∧True) (fun x:Option Addr × Nat=>⟨(rvL t.l n).length≤x.2,.tuple #[.slice x.1 (rvL t.l n).length x.2,iv (rvE t.l n)],[],fun w=>Sl 1 (rvL t.l n).length ((rvL t.l n).flatMap fun x=>[iv x]) (.slice x.1 (rvL t.l n).length x.2) w∧True⟩):=by
 refine Aj Tryz.func182 Z Z fun X w0=>(Ab (Aa (oj (C6 Z Z (fun r2=>(Al (Am 0 _ _ Z) ?_))))))
 try dsimp only [List.eraseIdx]
 refine oj (Ak Z Z (oj (Ak Z Z (on (qn (Ab (Ab (Aa (oj (Bx Z Z B1 (fun w h=>h.1.1) Z (oj (Ao Z Z (.cons Z .nil) fb_114 (Gz t hl)  (fun w h=>⟨(h.2.1),tR⟩) Z (fun _=>(Ae (fun w h=>h.2) (oj (Ak Z Z (on (qn (Ab (Aa (oj (mv Z Z ?_))))))))))))))))))))))
 refine oj (G2 Z Z Z (on (qn ?_)))
 refine C5 Z (fun h1=>?_) (fun h1=>?_)
 ·refine Ab (Aa (oj (mv Z Z (oj (Ak Z Z (oj (Ak Z Z (on (qn (Af (qr ?_)))))))))))
  have hz:=rvE_1 (n:=n) h1
  exact As (none,0) Z (.tmp Z (.tmp Z .nil)) (by rw [hz.2,← hz.1]; rfl) (by rw [hz.2]; exact Nat.le_refl _) .slnil (fun w h=>(by rw [hz.2]; exact ⟨Be,trivial⟩)) (.inl Z)
 ·refine Ah (qn (Ab (Ab (Aa (oj (mv Z Z (oj (Dd Z Z Z (oj (mv Z Z ?_))))))))))
  refine B5 (d:=14) Z (fun ht=>?_) (fun hf=>?_)
  ·refine oj (gf Z Z Z Z Z Z (oj (gf Z Z Z Z Z Z (oj (Cl Z Z Z (on (qn (Ap Z (fun _=>(Ab (Aa (oj (Ak Z Z (oj (Ak Z Z (on (qn (Af (qr ?_))))))))))) (fun h=>by cases h)))))))))
   have hz:=rvE_2 (n:=n) h1 (by omega)
   exact As (none,0) Z (.tmp Z (.tmp Z .nil)) (by rw [hz.2,hz.1]; rfl) (by rw [hz.2]; exact Nat.le_refl _) .slnil (fun w h=>(by rw [hz.2]; exact ⟨Be,trivial⟩)) (.inl Z)
  ·refine oj (gt Z Z Z ((mv Z Z (oj (gt Z Z Z ((gti Z Z Z (oj (Df Z Z Z (on (qn ?_)))))))))))
   refine A8 Z (fun ht=>?_) (fun hf=>?_)
   ·refine Ab (Aa (oj (Ak Z Z (oj (Ak Z Z (on (qn (Af (qr ?_)))))))))
    have hz:=rvE_2 (n:=n) h1 (by omega)
    exact As (none,0) Z (.tmp Z (.tmp Z .nil)) (by rw [hz.2,hz.1]; rfl) (by rw [hz.2]; exact Nat.le_refl _) .slnil (fun w h=>(by rw [hz.2]; exact ⟨Be,trivial⟩)) (.inl Z)
   ·refine Ah (qn (Ab (Aa (oj (Bx Z Z B1 (fun w h=>h.1.1) Z (oj (call Z Z (.cons Z .nil) fb_96 (of_spec t hl)  (fun w h=>⟨(h.2.1),tR⟩) ?_)))))))
    rintro ⟨rm,es_m,cl_m⟩ hm_m
    try dsimp only at hm_m
    try dsimp only
    refine oj (mv Z Z (kj_pubO (i:=0) Z ?_))
    try dsimp only [List.eraseIdx]
    refine oj (call Z Z (.cons Z (.cons Z .nil)) fb_233 (Ii rm n)  (fun w h=>tR) ?_)
    rintro ⟨qa,qb⟩ _
    try dsimp only
    refine oj (Hl Z Z (.cons Z .nil) fb_232 (.refl _) (collect_spec 271 [] [Bg qa 0,Bg qb 0] [] (fun w=>Bc qa [S1 (mpV rm)] 160 w∧Bc qb [S1 (iv n)] 3 w∧MapO rm es_m cl_m w∧True) (· = rsL (ofF t.l) 11 n) 2048 (by omega) (fun xs h=>by rw [h]; exact rsL_len _ 11 n) fb_271 (res_it rm es_m cl_m _ hm_m 10 n (by omega) (by omega) qa qb)) (fun w h=>⟨⟨(h.1.1),(h.1.2.1),(h.2.1.1),tR⟩,tR⟩) ?_)
    rintro ⟨v,e0,us⟩ ⟨h4,h5⟩
    try dsimp only at h4 h5
    try dsimp only
    obtain ⟨va,vc,rfl,hvc⟩:=h5.shape'
    have hz:=rvE_3 h1 (n:=n) (by omega)
    have hu:us=rvL t.l n:=h4.trans hz.2.symm
    clear h4
    subst hu
    refine oj (Ak Z Z (oj (Ak Z Z (on (qn (Af (By (i:=0) Z h5 (fi_one _) ?_)))))))
    try dsimp only [List.eraseIdx]
    exact As (va,vc) Z (.tmp Z (.tmp Z .nil)) (by rw [hz.1]; rfl) hvc .slnil (fun w h=>⟨(h.1.1),tR⟩) (.inl Z)
noncomputable def ndB (l:List (Int × Int)) (q:Int × Nat):List (Int × Int):=(rvL l q.1).map fun n=>((q.2:Int)+1,n)
noncomputable def ndL (l:List (Int × Int)) (d:Int):List (Int × Int):=(Dz d Ff).zipIdx.flatMap (ndB l)
theorem fm_split {α β:Type} {l:List α} {i:Nat} {x:α} (h:l[i]? = some x) (f:α→List β):(l.take i).flatMap f++(f x++(l.drop (i+1)).flatMap f)=l.flatMap f:=by
 have h1:l=l.take i++x::l.drop (i+1):=by
  obtain ⟨hi,e⟩:=List.getElem?_eq_some_iff.1 h
  rw [← e,← List.drop_eq_getElem_cons hi,List.take_append_drop]
 conv=>rhs; rw [h1]
 rw [List.flatMap_append,List.flatMap_cons]
theorem tk_split {α:Type} {l:List α} {i:Nat} {x:α} (h:l[i]? = some x):l.take i++x::l.drop (i+1)=l:=by
 obtain ⟨hi,e⟩:=List.getElem?_eq_some_iff.1 h
 rw [← e,← List.drop_eq_getElem_cons hi,List.take_append_drop]
theorem zix {l:List Int} {i:Nat} {x:Int} (h:l[i]? = some x):l.zipIdx[i]? = some (x,i):=by rw [List.getElem?_zipIdx,h]; simp
theorem nd_x {l:List (Int × Int)} {d:Int} {i j:Nat} {x n:Int} (hx:(Dz d Ff)[i]? = some x) (hn:(rvL l x)[j]? = some n) :
  ((((Dz d Ff).zipIdx.take i).flatMap (ndB l))++(ndB l (x,i)).take j)++((i:Int)+1,n)::((ndB l (x,i)).drop (j+1)++((Dz d Ff).zipIdx.drop (i+1)).flatMap (ndB l))=ndL l d:=by
 have h1:(ndB l (x,i))[j]? = some ((i:Int)+1,n):=by unfold ndB; rw [List.getElem?_map,hn]; rfl
 unfold ndL
 rw [← fm_split (zix hx) (ndB l),List.append_assoc]
 congr 1
 rw [← List.cons_append,← List.append_assoc,tk_split h1]
theorem needed_it (t:Tr) (hl:t.l.length≤1000000) (d:Int) (r1 r2:Nat):Fd Tryz.prog 180 [] [Bg r1 0,Bg r2 0] [] (fun w=>Bc r1 [S1 (iv d)] 3 w∧Bc r2 [S1 (.slice t.a t.l.length t.c)] 27 w∧t.F w∧True) (fun x:Int × Int=>[iv x.1,iv x.2])  ((· = ndL t.l d)):=by
 intro y σ Ps L J T s0 hs0 hY
 refine Dv Tryz.func180 Z Z fun X w0=>Ae (fun w h=>(h:J s0 w∧(fun w=>Bc r1 [S1 (iv d)] 3 w∧Bc r2 [S1 (.slice t.a t.l.length t.c)] 27 w∧t.F w∧True) w)) (Ab (Aa (oj (A4 Z Z Ai (fun w h=>Bc.at1 (h.2.1) Z) (oj (call Z Z (.cons Z .nil) fb_181 (copath_spec d)  (fun w h=>tR) ?_))))))
 rintro ⟨pa,pc⟩ hpc
 try dsimp only at hpc
 try dsimp only
 have hal:=alL_len d Ff
 try dsimp only at hpc
 refine oj (mv Z Z (oj (ext Z Z Z (oj (ext Z Z Z (oj (Ak Z Z (oj (Ak Z Z (on (qn (Ab (Aa (oj (mv Z Z (oj (Bn Z Z Tryz.underlying31 Z (oj (mv Z Z (on (qn (Ag (Aw (fun (sT:(Nat) × (σ))=>(⟨Ps sT.2∧sT.1≤(Dz d Ff).length∧Run T (((Dz d Ff).zipIdx.take sT.1).flatMap (ndB t.l)) s0 sT.2,[(0,.func (.yield y) #[] #[]),(2,Bg r2 0),(17,.slice pa (Dz d Ff).length pc),(18,iv (Dz d Ff).length),(19,iv (sT.1:Int))],L sT.2,fun w=>J sT.2 w∧Bc r2 [S1 (.slice t.a t.l.length t.c)] 27 w∧t.F w∧Sl 1 (Dz d Ff).length ((Dz d Ff).flatMap fun x=>[iv x]) (.slice pa (Dz d Ff).length pc) w∧True,(Dz d Ff).length-sT.1⟩:Hd)) (0,s0) (⟨hs0,Nat.zero_le _,.nil⟩) (⟨Z,Z,Z,Z,Z,tR⟩) (.refl _) (fun w h=>⟨(h.2.1),(Cu h),(Dw h),(h.1.1),tR⟩) ?_)))))))))))))))))))))))
 rintro ⟨i,s⟩ ⟨hs,hi,hr⟩
 try dsimp only
 try dsimp only at hs hi hr
 refine Ab (Aa (oj (Dd Z Z Z (on (qn (Ab ?_))))))
 refine A8 Z (fun ht=>?_) (fun hf=>?_)
 ·obtain ⟨x,hx⟩:∃ x,(Dz d Ff)[i]? = some x:=⟨_,List.getElem?_eq_getElem (by omega)⟩
  refine Ah (qn (Ab (Ag (Ab (Aa (oj (mv Z Z (oj (Fc Z Z Z Tryz.underlying31 Ai (by omega) (fun w h=>Sl.some (Cu h) (by omega)) (oj (A4 Z Z Ai (fun w h=>Sl.elem1 (Cu h) (Dh hx)) (oj (Ak Z Z (oj (Ak Z Z (on (qn (Ab (Aa (oj (D4 Z Z B1 Z (fun w h=>Bc.atS (h.2.1) Z) ?_)))))))))))))))))))))
  refine Ac (d:=25) (v:=t.v) Z Z (oj (mv Z Z (oj (call Z Z (.cons Z (.cons Z .nil)) fb_182 (resn_spec t hl x)  (fun w h=>⟨(h.2.2.1),tR⟩) ?_))))
  rintro ⟨na,nc⟩ hnc
  try dsimp only at hnc
  try dsimp only
  have hrl:=rvL_len t.l x
  try dsimp only at hnc
  refine oj (mv Z Z (oj (ext Z Z Z (oj (ext Z Z Z (oj (Ak Z Z (oj (Ak Z Z (on (qn (Ab (Aa (oj (mv Z Z (oj (Bn Z Z Tryz.underlying31 Z (oj (mv Z Z (on (qn (Ag (Aw (fun (sT:(Nat) × (σ))=>(⟨Ps sT.2∧sT.1≤(rvL t.l x).length∧Run T (((Dz d Ff).zipIdx.take i).flatMap (ndB t.l)++(ndB t.l (x,i)).take sT.1) s0 sT.2,[(0,.func (.yield y) #[] #[]),(2,Bg r2 0),(17,.slice pa (Dz d Ff).length pc),(18,iv (Dz d Ff).length),(19,iv (i:Int)),(6,iv (i:Int)),(30,.slice na (rvL t.l x).length nc),(31,iv (rvL t.l x).length),(32,iv (sT.1:Int))],L sT.2,fun w=>J sT.2 w∧Bc r2 [S1 (.slice t.a t.l.length t.c)] 27 w∧t.F w∧Sl 1 (Dz d Ff).length ((Dz d Ff).flatMap fun x=>[iv x]) (.slice pa (Dz d Ff).length pc) w∧Sl 1 (rvL t.l x).length ((rvL t.l x).flatMap fun x=>[iv x]) (.slice na (rvL t.l x).length nc) w∧True,(rvL t.l x).length-sT.1⟩:Hd)) (0,s) (⟨hs,Nat.zero_le _,by rw [List.take_zero,List.append_nil]; exact hr⟩) (⟨Z,Z,Z,Z,Z,Z,Z,Z,Z,tR⟩) (.refl _) (fun w h=>⟨(h.2.1),(h.2.2.1),(Cu h),(Dw h),(h.1.1),tR⟩) ?_)))))))))))))))))))))))
  rintro ⟨j,s⟩ ⟨hs,hj,hr⟩
  try dsimp only
  try dsimp only at hs hj hr
  refine Ab (Aa (oj (Dd Z Z Z (on (qn (Ab ?_))))))
  refine A8 Z (fun ht=>?_) (fun hf=>?_)
  ·obtain ⟨n,hn⟩:∃ n,(rvL t.l x)[j]? = some n:=⟨_,List.getElem?_eq_getElem (by omega)⟩
   have hnb:(ndB t.l (x,i))[j]? = some ((i:Int)+1,n):=by unfold ndB; rw [List.getElem?_map,hn]; rfl
   refine Ah (qn (Ab (Ag (Ab (Aa (oj (Fc Z Z Z Tryz.underlying31 Ai (by omega) (fun w h=>Sl.some (Dw h) (by omega)) (oj (A4 Z Z Ai (fun w h=>Sl.elem1 (Dw h) (Dh hn)) (oj (Ak Z Z (on (qn (Ab (Aa (oj (mv Z Z (oj (mv Z Z (oj (add Z Z Z (by omega) ?_)))))))))))))))))))))
   refine oj (mv Z Z (oj (yldr (own:=[]) hY (x:=((i:Int)+1,n)) ⟨_,_,hr,nd_x hx hn⟩ hs Z Z (.cons Z (.cons Z .nil)) Z (fun w h=>(h.1)) (fun s2 hP hT=>?_))))
   try dsimp only [List.cons_append,List.nil_append]
   exact kj_J (oj (not Z Z (on (qn (Ap Z (fun h=>by cases h) (fun _=>(Ah (bn (qn (Aa (oj (add Z Z Z (by omega) (oj (mv Z Z (on (qn (Ar (j+1,s2) (by dsimp only; omega) (⟨hP,by (try dsimp only); omega,by rw [A7 hnb,← List.append_assoc]; exact hr.snoc hT⟩) (⟨Z,Z,Z,Z,Z,Z,Z,Z,Z,tR⟩) (.refl _) (fun w h=>⟨(h.1.1),(h.2.2.1),(Cu h),(Dw h),(Ez h),tR⟩))))))))))))))))))
  ·have h4:j=(rvL t.l x).length:=by omega
   subst h4
   rw [List.take_of_length_le (show (ndB t.l (x,i)).length≤(rvL t.l x).length by simp [ndB])] at hr
   exact A1 (qe (qe (be (bn (qn (Aa (oj (add Z Z Z (by omega) (oj (mv Z Z (on (qn (Ar (i+1,s) (by dsimp only; omega) (⟨hs,by (try dsimp only); omega,by rw [A7 (zix hx),List.flatMap_append,List.flatMap_singleton]; exact hr⟩) (⟨Z,Z,Z,Z,Z,tR⟩) (.refl _) (fun w h=>⟨(h.1),(h.2.1),(h.2.2.1),(Cu h),tR⟩))))))))))))))
 ·have h4:i=(Dz d Ff).length:=by omega
  subst h4
  rw [List.take_of_length_le (by simp)] at hr
  exact A1 (qe (qe (be (retM (ds:=[]) s Z (.refl _) Z .nil Z ⟨hs,_,Z,hr⟩ (.refl _) (fun w h=>(h.1)) (.inr Z)))))
theorem needed_spec (t:Tr) (d:Int):Ay Tryz.prog 109 [t.v,iv d] [] (fun _=>True) (fun x:Nat × Nat=>⟨True,.func (.func 180) #[] #[Bg x.1 0,Bg x.2 0],[],fun w=>Bc x.1 [S1 (iv d)] 3 w∧Bc x.2 [S1 (.slice t.a t.l.length t.c)] 27 w∧True⟩):=by
 refine Aj Tryz.func109 Z Z fun X w0=>(Ab (Aa (oj (C6 Z Z (fun r2=>(Al (Am 0 _ _ Z) ?_))))))
 try dsimp only [List.eraseIdx]
 refine oj (box1 Z Z Z (fun r3=>(Al (Am 0 _ _ Z) ?_)))
 try dsimp only [List.eraseIdx]
 exact oj (Ak Z Z (on (qn (Ab (Aa (oj (mkF Z .nil (.cons Z (.cons Z .nil)) (oj (Ak Z Z (on (qn (Af (As (r3,r2) Z (.tmp Z .nil) Z tR .slnil (fun w h=>⟨(h.1.1),(h.2.1.1),tR⟩) (.inl Z))))))))))))))
theorem Je {P:Program} {f:FuncId} {args:List Value} {lin:List A9} {I:World→Prop} {α β:Type} {out:α→Out} {out':β→Out} (h:Ay P f args lin I out)
  (k:∀ x,(out x).p→∃ y,(out' y).p∧(out x).v=(out' y).v∧(out x).l=(out' y).l∧∀ w,(out x).J w→(out' y).J w):Ay P f args lin I out':=fun X w hw =>
 Calls.mono (h X w hw) fun e w' ⟨x,hp,hv,hs⟩=>by
  obtain ⟨y,py,ev,el,hj⟩:=k x hp
  exact ⟨y,py,by rw [hv,ev],by rw [← el]; exact hs.imp hj⟩
open Classical in
noncomputable def rmL (l:List (Int × Int)) (d:Int):List (Int × Int):=if Ie l d true then srtL (chF l d) else []
open Classical in
noncomputable def seL (l:List (Int × Int)) (d p:Int):List (Int × Int):=if Ie l d false then srtL (stF l d p) else []
theorem remove_spec (t:Tr) (hl:t.l.length≤10000) (d:Int):Ay Tryz.prog 133 [t.v,iv d] [] (fun w=>t.F w∧True) (fun x:Tr × Int=>⟨x.1.l=rmL t.l d∧x.1.l.length≤x.1.c∧x.1.l.length≤t.l.length,.tuple #[x.1.v,iv x.2],[],fun w=>x.1.F w∧True⟩):=by
 by_cases hc:Ie t.l d true
 ·exact Je (remove_ok t hl d hc) fun x ⟨h1,h2,h3⟩=>⟨(x,0),⟨by unfold rmL; rw [if_pos hc]; exact h1,h2,h3⟩,Z,Z,fun _ h=>h⟩
 ·exact Je (remove_bad t hl d hc) fun x (h1:x.l=[])=>⟨(x,chB t.l),⟨by unfold rmL; rw [if_neg hc]; exact h1,by (try dsimp only); rw [h1]; exact Nat.zero_le _,by (try dsimp only); rw [h1]; exact Nat.zero_le _⟩,Z,Z,fun _ h=>h⟩
theorem set_spec (t:Tr) (hl:t.l.length≤10000) (d p:Int) (hp:el p=true):Ay Tryz.prog 134 [t.v,iv d,iv p] [] (fun w=>t.F w∧True) (fun x:Tr × Int=>⟨x.1.l=seL t.l d p∧x.1.l.length≤x.1.c∧x.1.l.length≤t.l.length+1,.tuple #[x.1.v,iv x.2],[],fun w=>x.1.F w∧True⟩):=by
 by_cases hc:Ie t.l d false
 ·exact Je (set_ok t hl d p hc hp) fun x ⟨h1,h2,h3⟩=>⟨(x,0),⟨by unfold seL; rw [if_pos hc]; exact h1,h2,h3⟩,Z,Z,fun _ h=>h⟩
 ·exact Je (set_bad t hl d p hc) fun x (h1:x.l=[])=>⟨(x,chB t.l),⟨by unfold seL; rw [if_neg hc]; exact h1,by (try dsimp only); rw [h1]; exact Nat.zero_le _,by (try dsimp only); rw [h1]; exact Nat.zero_le _⟩,Z,Z,fun _ h=>h⟩
noncomputable def rnS (l:List (Int × Int)) (x:Chg):List (Int × Int):=if x.k=2 then rmL l x.d else seL l x.d x.p
noncomputable def Hh (l:List (Int × Int)) (xs:List Chg):List (Int × Int):=xs.foldl rnS l
theorem rnL_snoc (l:List (Int × Int)) (xs:List Chg) (x:Chg):Hh l (xs++[x])=rnS (Hh l xs) x:=by unfold Hh; rw [List.foldl_append]; rfl
theorem renewed_spec (g:Gp) (htc:g.tr.l.length≤g.tr.c) (a:Option Addr) (cap:Nat) (xs:List Chg) (hl:g.tr.l.length+xs.length≤10000) (hp:∀ x∈xs,x.k≠2→el x.p=true):Ay Tryz.prog 54 [av g.segs,.slice a xs.length cap] [] (fun w=>g.tr.F w∧Sl 5 xs.length (xs.flatMap Chg.cells) (.slice a xs.length cap) w∧True) (fun x:Tr=>⟨x.l=Hh g.tr.l xs∧x.l.length≤x.c∧x.l.length≤g.tr.l.length+xs.length,x.v,[],fun w=>x.F w∧True⟩):=by
 refine Aj Tryz.func54 Z Z fun X w0=>(Ab (Aa (oj (C6 Z Z (fun r2=>(Al (Am 0 _ _ Z) ?_))))))
 try dsimp only [List.eraseIdx]
 refine oj (C7 Z Ja (fun r4=>(on (qn (Ab (Aa (oj (A2 (o':=35) Z Z Ia B1 Z (oj (D4 Z Z B1 Z (fun w h=>Bc.atS (h.1.1) Z) (Ac (d:=9) (v:=g.tr.v) Z Z (oj (C7 Z Ja (fun r5=>(oj (C0 Z Z B1 Z Z .head (on (qn (Ab (Ab (Aa (oj (mv Z Z ?_)))))))))))))))))))))))
 refine oj (Bn Z Z Tryz.underlying30 Z (oj (mv Z Z (on (qn (Ag (Aw (fun (sT:(Nat) × (List (Int × Int)) × (Option Addr) × (Nat))=>(⟨sT.1≤xs.length∧sT.2.1=Hh g.tr.l (xs.take sT.1)∧sT.2.1.length≤sT.2.2.2∧sT.2.1.length≤g.tr.l.length+sT.1,[(4,Bg r4 0),(5,Bg r5 0),(10,.slice a xs.length cap),(11,iv xs.length),(12,iv (sT.1:Int))],[bx r5 [S1 (.slice sT.2.2.1 sT.2.1.length sT.2.2.2)] 27,bx r4 [S1 (.slice none 0 0)] 27],fun w=>Tr.F ⟨sT.2.1,sT.2.2.1,sT.2.2.2⟩ w∧Sl 5 xs.length (xs.flatMap Chg.cells) (.slice a xs.length cap) w∧True,xs.length-sT.1⟩:Hd)) (0,g.tr.l,g.tr.a,g.tr.c) (⟨Nat.zero_le _,Z,htc,Nat.le_refl _⟩) (⟨Z,Z,Z,Z,Z,tR⟩) (.refl _) (fun w h=>⟨(h.2.1),(h.2.2.1),tR⟩) ?_)))))))
 rintro ⟨i,cl,ca,cc⟩ ⟨hi,hr,hcc,hcl⟩
 try dsimp only
 try dsimp only at hi hr hcc hcl
 refine Ab (Aa (oj (Dd Z Z Z (on (qn (Ab ?_))))))
 refine A8 Z (fun ht=>?_) (fun hf=>?_)
 ·obtain ⟨x,hx⟩:∃ x,xs[i]? = some x:=⟨_,List.getElem?_eq_getElem (by omega)⟩
  refine Ah (qn (Ab (Ag (Ab (Aa (oj (Fc Z Z Z Tryz.underlying30 Cp (by omega) (fun w h=>Sl.some (h.2.1) (by omega)) (oj (D4 Z Z Cp Z (fun w h=>Cv (h.2.1) (by decide) (fun _=>Z) hx) (Ac (d:=15) (v:=av x.segs) Z Z (oj (C7 Z Fv (fun r7=>(oj (C0 Z Z Cp Z Z .head (on (qn (Ab (Aa (oj (A2 (o':=0) Z Z F0 Ai Z ?_)))))))))))))))))))))
  refine oj (Bh Z Z Ai (.head _) (Z) (oj (Eu Z Z Z (on (qn ?_)))))
  refine Fq Z (fun ht2=>?_) (fun hf2=>?_)
  ·refine Aa (oj (Eb Z Z B1 (.tail _ (.head _)) Z (oj (A2 (o':=1) Z Z Ds Ai Z (oj (Bh Z Z Ai (.head _) (Z) (oj (call Z Z (.cons Z (.cons Z .nil)) fb_133 (remove_spec ⟨cl,ca,cc⟩ (by (try dsimp only); omega) x.d)  (fun w h=>⟨(h.1),tR⟩) ?_))))))))
   rintro ⟨⟨nl1,na1,nc1⟩,ne1⟩ ⟨hr1,hc1,hl1⟩
   try dsimp only at hr1 hc1 hl1
   try dsimp only
   try dsimp only at hr1 hc1 hl1
   exact oj (mv Z Z (oj (ext Z Z Z (oj (ext Z Z Z (oj (C0 Z Z B1 Z Z (.tail .head) (on (bn (qn (Aa (oj (add Z Z Z (by omega) (oj (mv Z Z (on (qn (Ar (i+1,nl1,na1,nc1) (by dsimp only; omega) (⟨by (try dsimp only); omega,by rw [A7 hx,rnL_snoc,← hr]; unfold rnS; rw [if_pos ht2]; exact hr1,hc1,by (try dsimp only); omega⟩) (⟨Z,Z,Z,Z,Z,tR⟩) (.cons _ (.refl _)) (fun w h=>⟨(h.1.1),(h.2.2.1),tR⟩)))))))))))))))))))
  ·refine Aa (oj (Eb Z Z B1 (.tail _ (.head _)) Z (oj (A2 (o':=1) Z Z Ds Ai Z (oj (Bh Z Z Ai (.head _) (Z) (oj (A2 (o':=2) Z Z Kk Ai Z (oj (Bh Z Z Ai (.head _) (Z) (oj (call Z Z (.cons Z (.cons Z (.cons Z .nil))) fb_134 (set_spec ⟨cl,ca,cc⟩ (by (try dsimp only); omega) x.d x.p (hp x (List.mem_of_getElem? hx) hf2))  (fun w h=>⟨(h.1),tR⟩) ?_))))))))))))
   rintro ⟨⟨nl2,na2,nc2⟩,ne2⟩ ⟨hr2,hc2,hl2⟩
   try dsimp only at hr2 hc2 hl2
   try dsimp only
   try dsimp only at hr2 hc2 hl2
   exact oj (mv Z Z (oj (ext Z Z Z (oj (ext Z Z Z (oj (C0 Z Z B1 Z Z (.tail .head) (on (bn (qn (Aa (oj (add Z Z Z (by omega) (oj (mv Z Z (on (qn (Ar (i+1,nl2,na2,nc2) (by dsimp only; omega) (⟨by (try dsimp only); omega,by rw [A7 hx,rnL_snoc,← hr]; unfold rnS; rw [if_neg hf2]; exact hr2,hc2,by (try dsimp only); omega⟩) (⟨Z,Z,Z,Z,Z,tR⟩) (.cons _ (.refl _)) (fun w h=>⟨(h.1.1),(h.2.2.1),tR⟩)))))))))))))))))))
 ·have h4:i=xs.length:=by omega
  subst h4
  rw [List.take_length] at hr
  exact A1 (qe (qe (be (qn (Ab (Aa (oj (Eb Z Z B1 (.head _) Z (oj (C0 Z Z B1 Z Z (.tail .head) (on (qn (Af (As ⟨cl,ca,cc⟩ Z (.cellW Z B1 (.tail _ (.head _)) Z .nil) Z ⟨hr,hcc,by (try dsimp only); omega⟩ (Bl _) (fun w h=>⟨(h.1),tR⟩) (.inl Z)))))))))))))))
def kyB (x:Chg):Bool:=el x.p && el x.v
def cuB (x:Chg):Bool:=decide (0≤x.c) && decide (x.c≤1048576)
def okB (x:Chg):Bool:=if x.k=1 then kyB x && decide (x.c=0) else if x.k=2 then decide (x.p=0) && decide (x.v=0) && cuB x else if x.k=3 then kyB x && cuB x else false
def FmP (xs:List Chg):Prop:=(∀ x∈xs,okB x=true∧Eo x.d=true)∧(xs.map (·.d)).Nodup∧xs.length≤64
instance (xs:List Chg):Decidable (FmP xs):=by unfold FmP; infer_instance
def fmB (xs:List Chg):Bool:=decide (FmP xs)
theorem fmB_iff {xs:List Chg}:fmB xs=true↔FmP xs:=by simp [fmB]
theorem fmB_f {xs:List Chg} (h : ¬ FmP xs):fmB xs=false:=by simp [fmB,h]
theorem elE_eq0 (a:Int):decide (elE a=0)=el a:=by cases h:el a <;> simp [elE,h]
theorem elE_beq0 (a:Int):(elE a == 0)=el a:=by cases h:el a <;> simp [elE,h]
def FmI (xs:List Chg) (i:Nat):Prop:=(∀ x∈xs.take i,okB x=true∧Eo x.d=true)∧((xs.take i).map (·.d)).Nodup
theorem FmI.step {xs:List Chg} {i:Nat} {x:Chg} (h:FmI xs i) (hx:xs[i]? = some x) (h1:okB x=true) (h2:Eo x.d=true) (h3:x.d∉(xs.take i).map (·.d)):FmI xs (i+1):=by
 unfold FmI
 rw [A7 hx]
 refine ⟨fun y hy=>?_,?_⟩
 ·rcases List.mem_append.1 hy with hy | hy
  ·exact h.1 y hy
  ·rw [List.mem_singleton.1 hy]; exact ⟨h1,h2⟩
 ·rw [List.map_append,List.nodup_append]
  exact ⟨h.2,by simp,fun a ha b hb=>by simp at hb; subst hb; exact fun e=>h3 (e ▸ ha)⟩
theorem FmP.met {xs:List Chg} {i:Nat} {x:Chg} (h:FmP xs) (hx:xs[i]? = some x):x.d∉(xs.take i).map (·.d):=by
 intro hm
 have h2:=h.2.1
 rw [← List.take_append_drop i xs,List.map_append,List.nodup_append] at h2
 obtain ⟨hi,ex⟩:=List.getElem?_eq_some_iff.1 hx
 refine h2.2.2 x.d hm x.d ?_ Z
 rw [List.drop_eq_getElem_cons hi,ex]; exact .head _
theorem cformed_spec (a:Option Addr) (cap:Nat) (xs:List Chg) (hl:xs.length≤1000000):Ay Tryz.prog 68 [.slice a xs.length cap] [] (fun w=>Sl 5 xs.length (xs.flatMap Chg.cells) (.slice a xs.length cap) w∧True) (fun _:Unit=>⟨True,.bool (fmB xs),[],fun _=>True⟩):=by
 refine Aj Tryz.func68 Z Z fun X w0=>(Ab (Aa (oj (Ak Z Z (on (qn (Ab (Aa (oj (mkm Z (fun r9=>?_)))))))))))
 have hm_r9:=MapI.nil
 rw [← kF_nil] at hm_r9
 refine oj (Ak Z Z (on (qn (Ab (Ab (Aa (oj (mv Z Z (oj (Bn Z Z Tryz.underlying30 Z (oj (mv Z Z (on (qn (Ag (Aw (fun (sT:(Nat) × (Array MapEntry) × (Nat))=>(⟨sT.1≤xs.length∧MapI sT.2.1 sT.2.2 (kF ((xs.take sT.1).map (·.d)))∧FmI xs sT.1,[(0,.slice a xs.length cap),(3,mpV r9),(10,.slice a xs.length cap),(11,iv xs.length),(12,iv (sT.1:Int))],[mpE r9 sT.2.1 sT.2.2],fun w=>Sl 5 xs.length (xs.flatMap Chg.cells) (.slice a xs.length cap) w∧True,xs.length-sT.1⟩:Hd)) (0,_,_) (⟨Nat.zero_le _,hm_r9,by simp [FmI]⟩) (⟨Z,Z,Z,Z,Z,tR⟩) (.refl _) (fun w h=>⟨(h.1),tR⟩) ?_))))))))))))))))
 rintro ⟨i,es_r9,cl_r9⟩ ⟨hi,hm_r9,hF⟩
 try dsimp only
 try dsimp only at hi hm_r9 hF
 refine Ab (Aa (oj (Dd Z Z Z (on (qn (Ab ?_))))))
 refine A8 Z (fun ht=>?_) (fun hf=>?_)
 ·obtain ⟨x,hx⟩:∃ x,xs[i]? = some x:=⟨_,List.getElem?_eq_getElem (by omega)⟩
  refine Ah (qn (Ab (Ag (Ab (Aa (oj (Fc Z Z Z Tryz.underlying30 Cp (by omega) (fun w h=>Sl.some (h.1) (by omega)) (oj (D4 Z Z Cp Z (fun w h=>Cv (h.1) (by decide) (fun _=>Z) hx) (Ac (d:=15) (v:=av x.segs) Z Z (oj (C7 Z Fv (fun r5=>(oj (C0 Z Z Cp Z Z .head (on (qn (Ab ?_))))))))))))))))))
  refine Jo (fun (sT:Unit)=>(⟨True,[(0,.slice a xs.length cap),(3,mpV r9),(5,Bg r5 0),(10,.slice a xs.length cap),(11,iv xs.length),(12,iv (i:Int)),(6,.bool (kyB x))],[bx r5 x.segs 49,mpE r9 es_r9 cl_r9],fun w=>Sl 5 xs.length (xs.flatMap Chg.cells) (.slice a xs.length cap) w∧True,0⟩:Hd)) ?_ ?_
  ·refine Aa (oj (A2 (o':=2) Z Z Kk Ai Z (oj (Bh Z Z Ai (.head _) (Z) (oj (Ao Z Z (.cons Z .nil) J2 (Dq _)  (fun w h=>tR) Z (fun _=>(Ae (fun w h=>h.2) (oj (Eu Z Z Z (oj (mv Z Z ?_))))))))))))
   refine Kh (d:=20) Z (fun k1=>?_) (fun k1=>?_)
   ·exact oj (gt Z Z Z ((A2 (o':=3) Z Z H6 Ai Z (oj (gt Z Z Z ((Bh Z Z Ai (.head _) (Z) (oj (gt Z Z Z ((Ao Z Z (.cons Z .nil) J2 (Dq _)  (fun w h=>tR) Z (fun _=>(Ae (fun w h=>h.2) (oj (gt Z Z Z ((Eu Z Z Z (oj (Cl Z Z Z (Ac (d:=25) (v:=.bool (kyB x)) Z (by unfold kyB; simp_all [elE_eq0,elE_beq0,Ed]) (oj (Ak Z Z (on (qn (Dm (()) (tR) (⟨Z,Z,Z,Z,Z,Z,Z,tR⟩) (.refl _) (fun w h=>⟨(h.1),tR⟩))))))))))))))))))))))))))
   ·exact oj (gf Z Z Z Z Z Z (oj (gf Z Z Z Z Z Z (oj (gf Z Z Z Z Z Z (oj (gf Z Z Z Z Z Z (oj (Df Z Z Z (Ac (d:=25) (v:=.bool (kyB x)) Z (by unfold kyB; simp_all [elE_eq0,elE_beq0,Ed]) (oj (Ak Z Z (on (qn (Dm (()) (tR) (⟨Z,Z,Z,Z,Z,Z,Z,tR⟩) (.refl _) (fun w h=>⟨(h.1),tR⟩))))))))))))))))
  rintro _u _
  try dsimp only
  refine Ab ?_
  refine Jo (fun (sT:Unit)=>(⟨True,[(0,.slice a xs.length cap),(3,mpV r9),(5,Bg r5 0),(10,.slice a xs.length cap),(11,iv xs.length),(12,iv (i:Int)),(6,.bool (kyB x)),(7,.bool (cuB x))],[bx r5 x.segs 49,mpE r9 es_r9 cl_r9],fun w=>Sl 5 xs.length (xs.flatMap Chg.cells) (.slice a xs.length cap) w∧True,0⟩:Hd)) ?_ ?_
  ·refine Aa (oj (A2 (o':=4) Z Z fld_49_4 Ai Z (oj (Bh Z Z Ai (.head _) (Z) (oj (gei Z Z Z (oj (mv Z Z ?_))))))))
   refine B5 (d:=29) Z (fun k2=>?_) (fun k2=>?_)
   ·refine oj (gt Z Z Z ((A2 (o':=4) Z Z fld_49_4 Ai Z (oj (gt Z Z Z ((Bh Z Z Ai (.head _) (Z) (oj (gt Z Z Z ((lei Z Z Z (oj (Cl Z Z Z ?_)))))))))))))
    exact Ac (d:=33) (v:=.bool (cuB x)) Z (by unfold cuB; simp_all <;> omega) (oj (Ak Z Z (on (qn (Dm (()) (tR) (⟨Z,Z,Z,Z,Z,Z,Z,Z,tR⟩) (.refl _) (fun w h=>⟨(h.1),tR⟩))))))
   ·refine oj (gf Z Z Z Z Z Z (oj (gf Z Z Z Z Z Z (oj (gf Z Z Z Z Z Z (oj (Df Z Z Z ?_)))))))
    exact Ac (d:=33) (v:=.bool (cuB x)) Z (by unfold cuB; simp_all <;> omega) (oj (Ak Z Z (on (qn (Dm (()) (tR) (⟨Z,Z,Z,Z,Z,Z,Z,Z,tR⟩) (.refl _) (fun w h=>⟨(h.1),tR⟩))))))
  rintro _u _
  try dsimp only
  refine Ab (Aa (oj (Ak Z Z (on (qn (Ab ?_))))))
  refine Jo (fun (sT:Unit)=>(⟨True,[(0,.slice a xs.length cap),(3,mpV r9),(5,Bg r5 0),(10,.slice a xs.length cap),(11,iv xs.length),(12,iv (i:Int)),(8,.bool (okB x))],[bx r5 x.segs 49,mpE r9 es_r9 cl_r9],fun w=>Sl 5 xs.length (xs.flatMap Chg.cells) (.slice a xs.length cap) w∧True,0⟩:Hd)) ?_ ?_
  ·refine Ab (Aa (oj (A2 (o':=0) Z Z F0 Ai Z (oj (Bh Z Z Ai (.head _) (Z) (on (qn (Ag (Ab (Aa (oj (Eu Z Z Z (oj (Ak Z Z (on (qn ?_))))))))))))))))
   refine Fq Z (fun e1=>?_) (fun e1=>?_)
   ·refine Aa (oj (mv Z Z (oj (mv Z Z ?_))))
    refine Dn (d:=39) Z (fun k3=>?_) (fun k3=>?_)
    ·exact oj (gt Z Z Z ((A2 (o':=4) Z Z fld_49_4 Ai Z (oj (gt Z Z Z ((Bh Z Z Ai (.head _) (Z) (oj (gt Z Z Z ((Eu Z Z Z (oj (Cl Z Z Z (Ac (d:=43) (v:=.bool (okB x)) Z (by unfold okB; simp_all [beqI]) (oj (Ak Z Z (on (bn (qn (Dm (()) (tR) (⟨Z,Z,Z,Z,Z,Z,Z,tR⟩) (.refl _) (fun w h=>⟨(h.1),tR⟩)))))))))))))))))))))
    ·exact oj (gf Z Z Z Z Z Z (oj (gf Z Z Z Z Z Z (oj (gf Z Z Z Z Z Z (oj (Df Z Z Z (Ac (d:=43) (v:=.bool (okB x)) Z (by unfold okB; simp_all [beqI]) (oj (Ak Z Z (on (bn (qn (Dm (()) (tR) (⟨Z,Z,Z,Z,Z,Z,Z,tR⟩) (.refl _) (fun w h=>⟨(h.1),tR⟩)))))))))))))))
   ·refine Ab (Aa (oj (Eu Z Z Z (oj (Ak Z Z (on (qn ?_)))))))
    refine Fq Z (fun e2=>?_) (fun e2=>?_)
    ·refine Aa (oj (A2 (o':=2) Z Z Kk Ai Z (oj (Bh Z Z Ai (.head _) (Z) (oj (Eu Z Z Z (oj (mv Z Z ?_))))))))
     refine Kh (d:=49) Z (fun k4=>?_) (fun k4=>?_)
     ·refine oj (gt Z Z Z ((A2 (o':=3) Z Z H6 Ai Z (oj (gt Z Z Z ((Bh Z Z Ai (.head _) (Z) (oj (gt Z Z Z ((Eu Z Z Z (oj (Cl Z Z Z (oj (mv Z Z ?_)))))))))))))))
      refine Kh (d:=54) Z (fun k5=>?_) (fun k5=>?_)
      ·exact oj (gt Z Z Z ((mv Z Z (oj (Cl Z Z Z (Ac (d:=56) (v:=.bool (okB x)) Z (by unfold okB; simp_all [beqI]) (oj (Ak Z Z (on (bn (qn (Dm (()) (tR) (⟨Z,Z,Z,Z,Z,Z,Z,tR⟩) (.refl _) (fun w h=>⟨(h.1),tR⟩)))))))))))))
      ·exact oj (gf Z Z Z Z Z Z (oj (Df Z Z Z (Ac (d:=56) (v:=.bool (okB x)) Z (by unfold okB; simp_all [beqI]) (oj (Ak Z Z (on (bn (qn (Dm (()) (tR) (⟨Z,Z,Z,Z,Z,Z,Z,tR⟩) (.refl _) (fun w h=>⟨(h.1),tR⟩)))))))))))
     ·exact oj (gf Z Z Z Z Z Z (oj (gf Z Z Z Z Z Z (oj (gf Z Z Z Z Z Z (oj (Df Z Z Z (oj (mv Z Z (oj (gf Z Z Z Z Z Z (oj (Df Z Z Z (Ac (d:=56) (v:=.bool (okB x)) Z (by unfold okB; simp_all [beqI]) (oj (Ak Z Z (on (bn (qn (Dm (()) (tR) (⟨Z,Z,Z,Z,Z,Z,Z,tR⟩) (.refl _) (fun w h=>⟨(h.1),tR⟩)))))))))))))))))))))
    ·refine Ab (Aa (oj (Eu Z Z Z (oj (Ak Z Z (on (qn ?_)))))))
     refine Fq Z (fun e3=>?_) (fun e3=>?_)
     ·refine Aa (oj (mv Z Z (oj (mv Z Z ?_))))
      refine Dn (d:=60) Z (fun k6=>?_) (fun k6=>?_)
      ·exact oj (gt Z Z Z ((mv Z Z (oj (Cl Z Z Z (Ac (d:=62) (v:=.bool (okB x)) Z (by unfold okB; simp_all [beqI]) (oj (Ak Z Z (on (bn (qn (Dm (()) (tR) (⟨Z,Z,Z,Z,Z,Z,Z,tR⟩) (.refl _) (fun w h=>⟨(h.1),tR⟩)))))))))))))
      ·exact oj (gf Z Z Z Z Z Z (oj (Df Z Z Z (Ac (d:=62) (v:=.bool (okB x)) Z (by unfold okB; simp_all [beqI]) (oj (Ak Z Z (on (bn (qn (Dm (()) (tR) (⟨Z,Z,Z,Z,Z,Z,Z,tR⟩) (.refl _) (fun w h=>⟨(h.1),tR⟩)))))))))))
     ·exact Ac (d:=8) (v:=.bool (okB x)) Z (by unfold okB; simp [e1,e2,e3]) (Ah (bn (qn (Dm (()) (tR) (⟨Z,Z,Z,Z,Z,Z,Z,tR⟩) (.refl _) (fun w h=>⟨(h.1),tR⟩)))))
  rintro _u _
  try dsimp only
  refine Ab (Ab (Aa (oj (mv Z Z (oj (not Z Z (oj (mv Z Z ?_))))))))
  refine Dn (d:=65) Z (fun g1=>?_) (fun g1=>?_)
  ·refine oj (gf Z Z Z Z Z Z (oj (gf Z Z Z Z Z Z (oj (gf Z Z Z Z Z Z (oj (gf Z Z Z Z Z Z (oj (Cl Z Z Z (oj (mv Z Z (oj (gf Z Z Z Z Z Z (oj (gf Z Z Z Z Z Z (oj (gf Z Z Z Z Z Z (oj (gf Z Z Z Z Z Z (oj (Cl Z Z Z (on (qn (Ap Z (fun _=>(Ab (Aa ?_))) (fun h=>by cases h)))))))))))))))))))))))))
   refine oj (Ak Z Z (on (qn (Af (qr (br (qr (qr (br (qr ?_))))))))))
   have hb : ¬ FmP xs:=fun hF=>by
    have hq:=hF.1 x (List.mem_of_getElem? hx)
    have hm:=hF.met hx
    simp_all
   exact Ac (d:=2) (v:=.bool (fmB xs)) Z (by rw [fmB_f hb]) (As () Z (.tmp Z .nil) Z tR (Bl _) (fun w h=>tR) (.inl Z))
  ·refine oj (gt Z Z Z ((A2 (o':=1) Z Z Ds Ai Z (oj (gt Z Z Z ((Bh Z Z Ai (.head _) (Z) (oj (gt Z Z Z ((Ao Z Z (.cons Z .nil) fb_67 (J8 _)  (fun w h=>tR) Z (fun _=>(Ae (fun w h=>h.2) (oj (gt Z Z Z ((not Z Z (oj (Df Z Z Z (oj (mv Z Z ?_)))))))))))))))))))))
   refine Dn (d:=71) Z (fun g2=>?_) (fun g2=>?_)
   ·refine oj (gf Z Z Z Z Z Z (oj (gf Z Z Z Z Z Z (oj (gf Z Z Z Z Z Z (oj (gf Z Z Z Z Z Z (oj (Cl Z Z Z (on (qn (Ap Z (fun _=>(Ab (Aa (oj (Ak Z Z (on (qn (Af (qr (br ?_)))))))))) (fun h=>by cases h)))))))))))))
    refine qr (qr (br (qr ?_)))
    have hb : ¬ FmP xs:=fun hF=>by
     have hq:=hF.1 x (List.mem_of_getElem? hx)
     have hm:=hF.met hx
     simp_all [Eo]; omega
    exact Ac (d:=2) (v:=.bool (fmB xs)) Z (by rw [fmB_f hb]) (As () Z (.tmp Z .nil) Z tR (Bl _) (fun w h=>tR) (.inl Z))
   ·refine oj (gt Z Z Z ((mv Z Z (oj (gt Z Z Z ((A2 (o':=1) Z Z Ds Ai Z (oj (gt Z Z Z ((Bh Z Z Ai (.head _) (Z) (oj (gt Z Z Z ((mlk Z Z Z Tryz.underlying204 Tryz.underlying3 zb_4 (fun w ho h=>⟨_,_,ho _ _ (.tail _ (.head _)),hm_r9⟩) (Ac (d:=75) (v:=.bool (decide (x.d∈(xs.take i).map (·.d)))) Z (by rw [kF_get]) (oj (Df Z Z Z (on (qn ?_))))))))))))))))))))
    refine Ap Z (fun g3=>?_) (fun g3=>?_)
    ·refine Ab (Aa (oj (Ak Z Z (on (qn (Af (qr (br (qr (qr (br (qr ?_))))))))))))
     have hb : ¬ FmP xs:=fun hF=>by
      have hq:=hF.1 x (List.mem_of_getElem? hx)
      have hm:=hF.met hx
      simp_all
     exact Ac (d:=2) (v:=.bool (fmB xs)) Z (by rw [fmB_f hb]) (As () Z (.tmp Z .nil) Z tR (Bl _) (fun w h=>tR) (.inl Z))
    ·exact Ah (qn (Aa (oj (mv Z Z (oj (A2 (o':=1) Z Z Ds Ai Z (oj (Bh Z Z Ai (.head _) (Z) (oj (mup Z Z Z Tryz.underlying204 Tryz.underlying3 (fun _ _=>(.tail .head)) hm_r9 (fun es_r9 cl_r9 hm_r9=>(on (bn (qn (Aa (oj (add Z Z Z (by omega) (oj (mv Z Z (on (qn (Ar (i+1,es_r9,cl_r9) (by dsimp only; omega) (⟨by (try dsimp only); omega,by rw [A7 hx,List.map_append]; rw [kF_put] at hm_r9; exact hm_r9,hF.step hx (by simpa using g1) (by unfold Eo; simpa using g2) (by simpa using g3)⟩) (⟨Z,Z,Z,Z,Z,tR⟩) (.cons _ (.refl _)) (fun w h=>⟨(h.1),tR⟩)))))))))))))))))))))))
 ·have h4:i=xs.length:=by omega
  subst h4
  exact A1 (qe (qe (be (qn (Ab (Aa (oj (mv Z Z (oj (Bn Z Z Tryz.underlying30 Z (oj (lei Z Z Z (oj (Ak Z Z (on (qn (Af (Ac (d:=2) (v:=.bool (fmB xs)) Z (by congr 1; unfold fmB FmP; have h5:=hF; unfold FmI at h5; rw [List.take_length] at h5; exact decide_eq_decide.2 ⟨fun h=>⟨h5.1,h5.2,by omega⟩,fun h=>by have:=h.2.2; omega⟩) (As () Z (.tmp Z .nil) Z tR (Bl _) (fun w h=>tR) (.inl Z))))))))))))))))))))
end Go.Chx
