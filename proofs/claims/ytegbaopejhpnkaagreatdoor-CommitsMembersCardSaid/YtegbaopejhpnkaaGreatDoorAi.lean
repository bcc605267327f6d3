/- Part of the proof that the law CommitsMembers holds. -/
import Derived.Test.YtegbaopejhpnkaaGreatDoorAa
import Derived.Test.YtegbaopejhpnkaaGreatDoorAh
namespace Go.Chx
open Go Go.Proofs
set_option maxHeartbeats 1000000
set_option maxRecDepth 4000
theorem mul32 {a b:Nat} (ha:a≤4294967296) (hb:b < 4294967296):a*b < 18446744073709551616:=by
 have h1:a*b≤4294967296*b:=Nat.mul_le_mul_right _ ha
 omega
theorem wrap_rem {u v Y Q R:Nat} (h:Y*Q+R=u*4294967296+v) (hR:R < 18446744073709551616) :
  (((u*4294967296 % 18446744073709551616+v) % 18446744073709551616:Nat):Int)-((Q*Y % 18446744073709551616:Nat):Int)=(((u*4294967296 % 18446744073709551616+v) % 18446744073709551616:Nat):Int)-((Q*Y % 18446744073709551616:Nat):Int) ∧
  ((((u*4294967296 % 18446744073709551616+v) % 18446744073709551616:Nat):Int)-((Q*Y % 18446744073709551616:Nat):Int)) % 18446744073709551616=(R:Int):=by
 refine ⟨Z,?_⟩
 rw [Nat.mul_comm Q Y]
 generalize Y*Q=z at *
 omega
theorem div64_spec (hi lo y:Nat) (hy:y < 18446744073709551616) (hhi:hi < y) (hlo:lo < 18446744073709551616):Ay Tryz.prog 245 [nv hi,nv lo,nv y] [] (fun _=>True) (fun _:Unit=>⟨True,.tuple #[nv ((hi*18446744073709551616+lo) / y),nv ((hi*18446744073709551616+lo) % y)],[],fun _=>True⟩):=by
 refine Aj Tryz.func245 Z Z fun X w0=>(Ab (Aa (oj (Ak Z Z (oj (Ak Z Z (on (qn (Ab (Ab (Aa (oj (mv Z Z (oj (Eu Z Z Z (on (qn (Fq Z (fun ht=>absurd ht (by omega)) (fun hf=>(Ah ?_))))))))))))))))))))
 refine qn (Ab (Ab (Aa (oj (mv Z Z (oj (mv Z Z (oj (lei Z Z Z (on (qn (A8 Z (fun ht=>absurd ht (by omega)) (fun hf=>(Ah (qn (Ab (Ab (Aa (oj (mv Z Z ?_))))))))))))))))))))
 refine oj (Eu Z Z Z (on (qn ?_)))
 refine Fq Z (fun ht=>?_) (fun hf=>?_)
 ·have h00:hi=0:=by omega
  subst h00
  refine Ab (A5 mo (kj_del [6] (A3 [0,1,2,3,4,5,6] (fun _=>false) (by kernel_rfl) Z Z (.det _ (fun Q K R m k=>(mv Z Z k)) (.det _ (fun Q K R m k=>(mv Z Z k)) (.det _ (fun Q K R m k=>(quoN Z Z Z Z Z (by omega) (by omega) k)) (.det _ (fun Q K R m k=>(mv Z Z k)) (.det _ (fun Q K R m k=>(mv Z Z k)) (.det _ (fun Q K R m k=>(remN Z Z Z Z Z (by omega) k)) (.det _ (fun Q K R m k=>(Ak Z Z k)) (.nil (Ad 7 ((Ak Z Z (A6 (qn ?_))))))))))))))))
  exact Af (qr (Ac (d:=6) (v:=nv ((0*18446744073709551616+lo) / y)) Z (by rw [Nat.zero_mul,Nat.zero_add]) (Ac (d:=7) (v:=nv ((0*18446744073709551616+lo) % y)) Z (by rw [Nat.zero_mul,Nat.zero_add]) (As () Z (.tmp Z (.tmp Z .nil)) Z tR .slnil (fun w h=>tR) (.inl Z)))))
 ·refine Ah (qn (Ab (Aa (oj (mv Z Z (oj (Ao Z Z (.cons Z .nil) fb_284 (lz64_spec y hy)  (fun w h=>tR) Z (fun _=>(Ae (fun w h=>h.2) (oj (Ig Z Tryz.underlying3 Tryz.underlying177 Z ?_)))))))))))
  obtain ⟨s,hs0,hs,hsb,hsY,hsY2⟩:=norm (y:=y) (by omega) hy
  refine Ac (d:=36) (v:=nv s) Z (by rw [hsb,C4 (by omega)]; congr 1; omega) (oj (Ak Z Z (on (qn (Ab (Aa (oj (mv Z Z (oj (mv Z Z (oj (shlN Z Z Z Z Z (by omega) ?_))))))))))))
  obtain ⟨Y,hYs⟩:∃ Y,Y=y*2 ^ s:=⟨_,rfl⟩
  obtain ⟨yn1,hyn1⟩:∃ z,z=Y / 4294967296:=⟨_,rfl⟩
  obtain ⟨yn0,hyn0⟩:∃ z,z=Y % 4294967296:=⟨_,rfl⟩
  obtain ⟨u,hus⟩:∃ z,z=hi*2 ^ s+lo / 2 ^ (64-s):=⟨_,rfl⟩
  obtain ⟨L,hL⟩:∃ z,z=lo*2 ^ s % 18446744073709551616:=⟨_,rfl⟩
  obtain ⟨un1,hun1e⟩:∃ z,z=L / 4294967296:=⟨_,rfl⟩
  obtain ⟨un0,hun0e⟩:∃ z,z=L % 4294967296:=⟨_,rfl⟩
  have hLb:L < 18446744073709551616:=by rw [hL]; exact Nat.mod_lt _ (by omega)
  have hN:=split2 hi lo s hs hlo
  rw [← hus,← hL] at hN
  have hu:u < Y:=by
   have h1:(hi*18446744073709551616+lo)*2 ^ s < y*18446744073709551616*2 ^ s:=Nat.mul_lt_mul_of_pos_right (by omega) (Nat.two_pow_pos _)
   rw [hN,Nat.mul_right_comm,← hYs] at h1
   omega
  have hYb:Y < 18446744073709551616:=by rw [hYs]; exact hsY
  have hY2:9223372036854775808≤Y:=by rw [hYs]; exact hsY2
  have hY:Y=yn1*4294967296+yn0:=by omega
  have hyn:2147483648≤yn1:=by omega
  have hyn0b:yn0 < 4294967296:=by omega
  have hyn1b:yn1 < 4294967296:=by omega
  have hun1:un1 < 4294967296:=by omega
  have hun0:un0 < 4294967296:=by omega
  obtain ⟨Q1,hQ1⟩:∃ z,z=(u*4294967296+un1) / Y:=⟨_,rfl⟩
  obtain ⟨R1,hR1⟩:∃ z,z=(u*4294967296+un1) % Y:=⟨_,rfl⟩
  obtain ⟨Q0,hQ0⟩:∃ z,z=(R1*4294967296+un0) / Y:=⟨_,rfl⟩
  obtain ⟨R0,hR0⟩:∃ z,z=(R1*4294967296+un0) % Y:=⟨_,rfl⟩
  have hR1Y:R1 < Y:=by rw [hR1]; exact Nat.mod_lt _ (by omega)
  have hR0Y:R0 < Y:=by rw [hR0]; exact Nat.mod_lt _ (by omega)
  have e1:=Nat.div_add_mod (u*4294967296+un1) Y
  rw [← hQ1,← hR1] at e1
  have e0:=Nat.div_add_mod (R1*4294967296+un0) Y
  rw [← hQ0,← hR0] at e0
  refine Ac (d:=39) (v:=nv Y) Z (by rw [Nat.mod_eq_of_lt hsY,hYs]) (oj (Ak Z Z (on (qn (Ab (Aa (oj (mv Z Z (oj (shrN (b:=32) Z Z Z Z Z (by omega) (Ac (d:=41) (v:=nv yn1) Z (by rw [hyn1]) (oj (Ak Z Z (on (qn (Ab (Aa (oj (mv Z Z (oj (andN (b:=4294967295) Z Z Z Z Z (by omega) ?_)))))))))))))))))))))
  refine Ac (d:=43) (v:=nv yn0) Z (by rw [hyn0,and_mask]) (oj (Ak Z Z (on (qn (Ab (Aa (oj (mv Z Z (oj (mv Z Z (oj (shlN Z Z Z Z Z (by omega) (oj (mv Z Z (oj (mv Z Z (oj (subN (a:=64) Z Z Z Z Z (by omega) (oj (shrN Z Z Z Z Z (by omega) ?_))))))))))))))))))))
  have hb1:lo / 2 ^ (64-s) < 2 ^ s:=by
   rw [Nat.div_lt_iff_lt_mul (Nat.two_pow_pos _),← Nat.pow_add,show s+(64-s)=64 from by omega]; exact hlo
  have hb4:hi*2 ^ s≤u:=by rw [hus]; exact Nat.le_add_right _ _
  have hb2:hi*2 ^ s % 18446744073709551616=hi*2 ^ s:=Nat.mod_eq_of_lt (by omega)
  have hb3:lo / 2 ^ (64-s)≤lo:=Nat.div_le_self _ _
  refine oj (orN Z Z Z Z Z (by constructor <;> omega) (Ac (d:=51) (v:=nv u) Z (by rw [hb2,or_split _ _ _ hb1,hus]) (oj (Ak Z Z (on (qn (Ab (Aa (oj (mv Z Z (oj (mv Z Z (oj (shlN Z Z Z Z Z (by omega) (Ac (d:=54) (v:=nv L) Z (by rw [hL]) (oj (Ak Z Z (on (qn (Ab (Aa ?_)))))))))))))))))))))
  refine oj (mv Z Z (oj (shrN (b:=32) Z Z Z Z Z (by omega) (Ac (d:=56) (v:=nv un1) Z (by rw [hun1e]) (oj (Ak Z Z (on (qn (Ab (Aa (oj (mv Z Z (oj (andN (b:=4294967295) Z Z Z Z Z (by omega) (Ac (d:=58) (v:=nv un0) Z (by rw [and_mask,hun0e]) (oj (Ak Z Z (on (qn (Ab (Aa ?_)))))))))))))))))))))
  refine oj (mv Z Z (oj (mv Z Z (oj (quoN Z Z Z Z Z (by omega) (by omega) (oj (Ak Z Z (on (qn (Ab (Aa (oj (mv Z Z (oj (mv Z Z (oj (mv Z Z (oj (mulN Z Z Z Z Z (by have:=Nat.div_mul_le_self u yn1; omega) (oj (subN Z Z Z Z Z (by have:=Nat.div_mul_le_self u yn1; omega) (oj (Ak Z Z (on (qn ?_)))))))))))))))))))))))))
  refine Ab ?_
  refine Jo (fun (sT:(Nat))=>(⟨sT=Q1,[(2,nv Y),(8,nv s),(9,nv yn1),(10,nv yn0),(11,nv u),(13,nv un1),(14,nv un0),(15,nv sT)],[],fun _=>True,0⟩:Hd)) ?_ ?_
  ·refine Ag ?_
   have hm:u / yn1*yn1≤u:=Nat.div_mul_le_self _ _
   have hm2:u % yn1 < yn1:=Nat.mod_lt _ (by omega)
   have hm3:=Nat.div_add_mod u yn1
   rw [Nat.mul_comm] at hm3
   have hm4:=dg_first hY hyn hyn0b hu
   have hm5:=dg_ge (u:=u) hY (by omega) hun1
   refine Aw (fun (sT:(Nat) × (Nat))=>(⟨sT.1*yn1+sT.2=u∧sT.2 < 4294967296∧Q1≤sT.1∧sT.1≤4294967297,[(2,nv Y),(8,nv s),(9,nv yn1),(10,nv yn0),(11,nv u),(13,nv un1),(14,nv un0),(15,nv sT.1),(16,nv sT.2)],[],fun _=>True,sT.1⟩:Hd)) (u / yn1,u-u / yn1*yn1) (by refine ⟨?_,?_,?_,?_⟩ <;> dsimp only <;> omega) (⟨Z,Z,Z,Z,Z,Z,Z,Z,Z,tR⟩) .slnil (fun w h=>tR) ?_
   rintro ⟨q,r⟩ ⟨hq,hr,hQ,hq1⟩
   try dsimp only
   try dsimp only at hq hr hQ hq1
   refine Ab (Ab (Aa (oj (mv Z Z (oj (gei Z Z Z (oj (mv Z Z ?_))))))))
   refine B5 (d:=69) Z (fun ht=>?_) (fun hf=>?_)
   ·have hlt:Q1 < q:=by rw [hQ1]; exact dg_more hY hq hun1 hu (by omega)
    refine oj (gf Z Z Z Z Z Z (oj (gf Z Z Z Z Z Z (oj (gf Z Z Z Z Z Z (oj (gf Z Z Z Z Z Z (oj (gf Z Z Z Z Z Z (oj (gf Z Z Z Z Z Z (oj (gf Z Z Z Z Z Z (oj (gf Z Z Z Z Z Z (oj (Cl Z Z Z (on (qn (Ap Z (fun _=>(Ah (qn (Ag (Ab ?_))))) (fun h=>by cases h)))))))))))))))))))))
    refine Aa (oj (mv Z Z (oj (subN (b:=1) Z Z Z Z Z (by omega) (oj (Ak Z Z (on (qn (Ab (Aa (oj (mv Z Z (oj (mv Z Z (oj (addN Z Z Z Z Z (by omega) (oj (Ak Z Z (on (qn (Ab (Aa ?_))))))))))))))))))))))
    refine oj (mv Z Z (oj (gei Z Z Z (on (qn ?_)))))
    refine A8 Z (fun ht=>?_) (fun hf=>?_)
    ·refine A1 (bo Z (qe (be (qn ?_))))
     have hle:q-1≤Q1:=by
      rw [hQ1]
      refine dg_less (r:=r+yn1) hY ?_ (by omega) ?_
      ·have:=Nat.sub_mul q 1 yn1; have:=Nat.le_mul_of_pos_left yn1 (show 0 < q by omega); omega
      ·have:=mul32 (a:=q-1) (b:=yn0) (by omega) hyn0b; omega
     exact Dm (q-1) (by dsimp only; omega) (⟨Z,Z,Z,Z,Z,Z,Z,Z,tR⟩) .slnil (fun w h=>tR)
    ·exact Ah (bn (qn (Ar ((q-1,r+yn1)) (by dsimp only; omega) (by have:=Nat.sub_mul q 1 yn1; have:=Nat.le_mul_of_pos_left yn1 (show 0 < q by omega); dsimp only; omega) (⟨Z,Z,Z,Z,Z,Z,Z,Z,Z,tR⟩) .slnil (fun w h=>tR))))
   ·refine oj (gt Z Z Z ((mv Z Z (oj (gt Z Z Z ((mv Z Z (oj (gt Z Z Z ((mulN Z Z Z Z Z (mul32 (by omega) hyn0b) (oj (gt Z Z Z ((mv Z Z (oj (gt Z Z Z ((mulN (a:=4294967296) Z Z Z Z Z (by omega) (oj (gt Z Z Z ((mv Z Z (oj (gt Z Z Z ((addN Z Z Z Z Z (by omega) (oj (gt Z Z Z ((gti Z Z Z ?_)))))))))))))))))))))))))))))))
    refine oj (Df Z Z Z (on (qn ?_)))
    refine A8 Z (fun ht=>?_) (fun hf=>?_)
    ·have hlt:Q1 < q:=by rw [hQ1]; exact dg_more hY hq hun1 hu (by omega)
     refine Ah (qn (Ag (Ab (Aa (oj (mv Z Z (oj (subN (b:=1) Z Z Z Z Z (by omega) (oj (Ak Z Z (on (qn (Ab (Aa (oj (mv Z Z (oj (mv Z Z (oj (addN Z Z Z Z Z (by omega) (oj (Ak Z Z ?_))))))))))))))))))))))
     refine on (qn (Ab (Aa (oj (mv Z Z (oj (gei Z Z Z (on (qn ?_)))))))))
     refine A8 Z (fun ht=>?_) (fun hf=>?_)
     ·refine A1 (bo Z (qe (be (qn ?_))))
      have hle:q-1≤Q1:=by
       rw [hQ1]
       refine dg_less (r:=r+yn1) hY ?_ (by omega) ?_
       ·have:=Nat.sub_mul q 1 yn1; have:=Nat.le_mul_of_pos_left yn1 (show 0 < q by omega); omega
       ·have:=mul32 (a:=q-1) (b:=yn0) (by omega) hyn0b; omega
      exact Dm (q-1) (by dsimp only; omega) (⟨Z,Z,Z,Z,Z,Z,Z,Z,tR⟩) .slnil (fun w h=>tR)
     ·exact Ah (bn (qn (Ar ((q-1,r+yn1)) (by dsimp only; omega) (by have:=Nat.sub_mul q 1 yn1; have:=Nat.le_mul_of_pos_left yn1 (show 0 < q by omega); dsimp only; omega) (⟨Z,Z,Z,Z,Z,Z,Z,Z,Z,tR⟩) .slnil (fun w h=>tR))))
    ·refine A1 (qe (qe (be (qn ?_))))
     have hle:q≤Q1:=by
      rw [hQ1]
      exact dg_less hY hq (by omega) (by omega)
     exact Dm (q) (by dsimp only; omega) (⟨Z,Z,Z,Z,Z,Z,Z,Z,tR⟩) .slnil (fun w h=>tR)
  rintro q hq
  try dsimp only
  rw [hq]
  refine Ab (Aa (oj (mv Z Z (oj (mulM (b:=4294967296) Z Z Z Z Z  (oj (mv Z Z (oj (addM Z Z Z Z Z  (oj (mv Z Z (oj (mv Z Z (oj (mulM Z Z Z Z Z  (oj (subM (R1) Z Z Z Z Z ((wrap_rem e1 (by omega)).2) (oj (Ak Z Z (on (qn (Ab (Aa (oj (mv Z Z ?_)))))))))))))))))))))))))
  refine oj (mv Z Z (oj (quoN Z Z Z Z Z (by omega) (by omega) (oj (Ak Z Z (on (qn (Ab (Aa (oj (mv Z Z (oj (mv Z Z (oj (mv Z Z (oj (mulN Z Z Z Z Z (by have:=Nat.div_mul_le_self R1 yn1; omega) (oj (subN Z Z Z Z Z (by have:=Nat.div_mul_le_self R1 yn1; omega) (oj (Ak Z Z (on (qn (Ab ?_))))))))))))))))))))))))
  refine Jo (fun (sT:(Nat))=>(⟨sT=Q0,[(2,nv Y),(8,nv s),(14,nv un0),(15,nv Q1),(17,nv R1),(18,nv sT)],[],fun _=>True,0⟩:Hd)) ?_ ?_
  ·refine Ag ?_
   have hm:R1 / yn1*yn1≤R1:=Nat.div_mul_le_self _ _
   have hm2:R1 % yn1 < yn1:=Nat.mod_lt _ (by omega)
   have hm3:=Nat.div_add_mod R1 yn1
   rw [Nat.mul_comm] at hm3
   have hm4:=dg_first hY hyn hyn0b hR1Y
   have hm5:=dg_ge (u:=R1) hY (by omega) hun0
   refine Aw (fun (sT:(Nat) × (Nat))=>(⟨sT.1*yn1+sT.2=R1∧sT.2 < 4294967296∧Q0≤sT.1∧sT.1≤4294967297,[(2,nv Y),(8,nv s),(9,nv yn1),(10,nv yn0),(11,nv u),(13,nv un1),(14,nv un0),(15,nv Q1),(17,nv R1),(18,nv sT.1),(16,nv sT.2)],[],fun _=>True,sT.1⟩:Hd)) (R1 / yn1,R1-R1 / yn1*yn1) (by refine ⟨?_,?_,?_,?_⟩ <;> dsimp only <;> omega) (⟨Z,Z,Z,Z,Z,Z,Z,Z,Z,Z,Z,tR⟩) .slnil (fun w h=>tR) ?_
   rintro ⟨q,r⟩ ⟨hq,hr,hQ,hq1⟩
   try dsimp only
   try dsimp only at hq hr hQ hq1
   refine Ab (Ab (Aa (oj (mv Z Z (oj (gei Z Z Z (oj (mv Z Z ?_))))))))
   refine B5 (d:=104) Z (fun ht=>?_) (fun hf=>?_)
   ·have hlt:Q0 < q:=by rw [hQ0]; exact dg_more hY hq hun0 hR1Y (by omega)
    refine oj (gf Z Z Z Z Z Z (oj (gf Z Z Z Z Z Z (oj (gf Z Z Z Z Z Z (oj (gf Z Z Z Z Z Z (oj (gf Z Z Z Z Z Z (oj (gf Z Z Z Z Z Z (oj (gf Z Z Z Z Z Z (oj (gf Z Z Z Z Z Z (oj (Cl Z Z Z (on (qn (Ap Z (fun _=>(Ah (qn (Ag (Ab ?_))))) (fun h=>by cases h)))))))))))))))))))))
    refine Aa (oj (mv Z Z (oj (subN (b:=1) Z Z Z Z Z (by omega) (oj (Ak Z Z (on (qn (Ab (Aa (oj (mv Z Z (oj (mv Z Z (oj (addN Z Z Z Z Z (by omega) (oj (Ak Z Z (on (qn (Ab (Aa ?_))))))))))))))))))))))
    refine oj (mv Z Z (oj (gei Z Z Z (on (qn ?_)))))
    refine A8 Z (fun ht=>?_) (fun hf=>?_)
    ·refine A1 (bo Z (qe (be (qn ?_))))
     have hle:q-1≤Q0:=by
      rw [hQ0]
      refine dg_less (r:=r+yn1) hY ?_ (by omega) ?_
      ·have:=Nat.sub_mul q 1 yn1; have:=Nat.le_mul_of_pos_left yn1 (show 0 < q by omega); omega
      ·have:=mul32 (a:=q-1) (b:=yn0) (by omega) hyn0b; omega
     exact Dm (q-1) (by dsimp only; omega) (⟨Z,Z,Z,Z,Z,Z,tR⟩) .slnil (fun w h=>tR)
    ·exact Ah (bn (qn (Ar ((q-1,r+yn1)) (by dsimp only; omega) (by have:=Nat.sub_mul q 1 yn1; have:=Nat.le_mul_of_pos_left yn1 (show 0 < q by omega); dsimp only; omega) (⟨Z,Z,Z,Z,Z,Z,Z,Z,Z,Z,Z,tR⟩) .slnil (fun w h=>tR))))
   ·refine oj (gt Z Z Z ((mv Z Z (oj (gt Z Z Z ((mv Z Z (oj (gt Z Z Z ((mulN Z Z Z Z Z (mul32 (by omega) hyn0b) (oj (gt Z Z Z ((mv Z Z (oj (gt Z Z Z ((mulN (a:=4294967296) Z Z Z Z Z (by omega) (oj (gt Z Z Z ((mv Z Z (oj (gt Z Z Z ((addN Z Z Z Z Z (by omega) (oj (gt Z Z Z ((gti Z Z Z ?_)))))))))))))))))))))))))))))))
    refine oj (Df Z Z Z (on (qn ?_)))
    refine A8 Z (fun ht=>?_) (fun hf=>?_)
    ·have hlt:Q0 < q:=by rw [hQ0]; exact dg_more hY hq hun0 hR1Y (by omega)
     refine Ah (qn (Ag (Ab (Aa (oj (mv Z Z (oj (subN (b:=1) Z Z Z Z Z (by omega) (oj (Ak Z Z (on (qn (Ab (Aa (oj (mv Z Z (oj (mv Z Z (oj (addN Z Z Z Z Z (by omega) (oj (Ak Z Z ?_))))))))))))))))))))))
     refine on (qn (Ab (Aa (oj (mv Z Z (oj (gei Z Z Z (on (qn ?_)))))))))
     refine A8 Z (fun ht=>?_) (fun hf=>?_)
     ·refine A1 (bo Z (qe (be (qn ?_))))
      have hle:q-1≤Q0:=by
       rw [hQ0]
       refine dg_less (r:=r+yn1) hY ?_ (by omega) ?_
       ·have:=Nat.sub_mul q 1 yn1; have:=Nat.le_mul_of_pos_left yn1 (show 0 < q by omega); omega
       ·have:=mul32 (a:=q-1) (b:=yn0) (by omega) hyn0b; omega
      exact Dm (q-1) (by dsimp only; omega) (⟨Z,Z,Z,Z,Z,Z,tR⟩) .slnil (fun w h=>tR)
     ·exact Ah (bn (qn (Ar ((q-1,r+yn1)) (by dsimp only; omega) (by have:=Nat.sub_mul q 1 yn1; have:=Nat.le_mul_of_pos_left yn1 (show 0 < q by omega); dsimp only; omega) (⟨Z,Z,Z,Z,Z,Z,Z,Z,Z,Z,Z,tR⟩) .slnil (fun w h=>tR))))
    ·refine A1 (qe (qe (be (qn ?_))))
     have hle:q≤Q0:=by
      rw [hQ0]
      exact dg_less hY hq (by omega) (by omega)
     exact Dm (q) (by dsimp only; omega) (⟨Z,Z,Z,Z,Z,Z,tR⟩) .slnil (fun w h=>tR)
  rintro q hq
  try dsimp only
  rw [hq]
  refine Ab (Aa (oj (mv Z Z (oj (mulM (b:=4294967296) Z Z Z Z Z  (oj (mv Z Z (oj (addM Z Z Z Z Z  (oj (mv Z Z (oj (mulM (b:=4294967296) Z Z Z Z Z  (oj (mv Z Z (oj (addM Z Z Z Z Z  (oj (mv Z Z (oj (mv Z Z (oj (mulM Z Z Z Z Z  (oj (subM (R0) Z Z Z Z Z ((wrap_rem e0 (by omega)).2) (oj (mv Z Z (oj (shrN Z Z Z Z Z (by omega) ?_)))))))))))))))))))))))))))))
  refine oj (Ak Z Z (oj (Ak Z Z (on (qn (Af ?_))))))
  obtain ⟨f1,f2⟩:=two_digits hun1e hun0e hQ1 hR1 hQ0 hR0 (show 0 < Y by omega)
  rw [← hN,hYs] at f1 f2
  rw [Nat.mul_div_mul_right _ _ (Nat.two_pow_pos s)] at f1
  rw [Nat.mul_mod_mul_right] at f2
  have f3:(hi*18446744073709551616+lo) / y < 18446744073709551616:=by
   rw [Nat.div_lt_iff_lt_mul (by omega)]; omega
  have f4:(Q1*4294967296 % 18446744073709551616+Q0) % 18446744073709551616=(hi*18446744073709551616+lo) / y:=by omega
  exact Ac (d:=6) (v:=nv ((hi*18446744073709551616+lo) / y)) Z (by rw [f4]) (Ac (d:=7) (v:=nv ((hi*18446744073709551616+lo) % y)) Z (by rw [← f2,Nat.mul_div_cancel _ (Nat.two_pow_pos s)]) (As () Z (.tmp Z (.tmp Z .nil)) Z tR .slnil (fun w h=>tR) (.inl Z)))
def Ic (k:Nat):Nat→List Bool
 | 0=>[]
 | m+1=>(k / 2 ^ m % 2 == 1)::Ic k m
theorem bits_and1 (k m:Nat) (hk:k < 18446744073709551616):(((k / 2 ^ m &&& 1:Nat):Int) == 1)=(k / 2 ^ m % 2 == 1):=by
 rw [Nat.and_one_is_mod]
 have:=Nat.mod_lt (k / 2 ^ m) (show 0 < 2 by omega)
 rcases Nat.mod_two_eq_zero_or_one (k / 2 ^ m) with h | h <;> rw [h] <;> rfl
theorem bitLen_le {k:Nat} (hk:k < 18446744073709551616):Lib.bitLen k≤64:=by
 by_cases h:k=0
 ·subst h; decide
 ·exact (bitLen_pos 64 k (by simpa using hk) (by omega) h).2.1
theorem times_spec (a b:Nat) (ha:a < 4611686018427377339) (hb:b < 18446744073709551616):Ay Tryz.prog 189 [nv a,nv b] [] (fun _=>True) (fun _:Unit=>⟨True,nv (a*b % 4611686018427377339),[],fun _=>True⟩):=by
 refine Aj Tryz.func189 Z Z fun X w0=>(Ab (Aa (oj (Ak Z Z (on (qn (Ab (Aa (oj (mv Z Z (oj (mv Z Z (oj (Ao Z Z (.cons Z (.cons Z .nil)) fb_244 (mul64_spec a b (by omega) hb)  (fun w h=>tR) Z (fun _=>(Ae (fun w h=>h.2) (oj (mv Z Z (oj (ext Z Z Z (oj (ext Z Z Z (oj (Ak Z Z ?_))))))))))))))))))))))))
 refine oj (Ak Z Z (on (qn (Ab (Aa (oj (mv Z Z (oj (mv Z Z ?_)))))))))
 have hlt:a*b / 18446744073709551616 < 4611686018427377339:=by
  rw [Nat.div_lt_iff_lt_mul (by decide)]
  exact Nat.lt_of_le_of_lt (Nat.mul_le_mul_right _ (Nat.le_of_lt ha)) (Nat.mul_lt_mul_of_pos_left hb (by decide))
 refine oj (Ao Z Z (.cons Z (.cons Z (.cons Z .nil))) fb_245 (div64_spec _ _ 4611686018427377339 (by decide) hlt (Nat.mod_lt _ (by decide)))  (fun w h=>tR) Z (fun _=>(Ae (fun w h=>h.2) (oj (mv Z Z (oj (ext Z Z Z (oj (ext Z Z Z (oj (Ak Z Z (oj (Ak Z Z (on (qn (Ab (Aa (oj (mv Z Z (oj (Ak Z Z (on (qn (Af ?_))))))))))))))))))))))))
 exact Ac (d:=4) (v:=nv (a*b % 4611686018427377339)) Z (by show nv (_ % _)=nv _; rw [show a*b / 18446744073709551616*18446744073709551616+a*b % 18446744073709551616=a*b from by omega]) (As () Z (.tmp Z .nil) Z tR .slnil (fun w h=>tR) (.inl Z))
theorem digits_it (k b:Nat) (hk:k < 18446744073709551616):ItSpec Tryz.prog 252 [] [Bg b 0]  (fun w=>Bc b [S1 (nv k)] 205 w∧True) (fun x:Bool=>[.bool x]) (fun _=>True) ((· = Ic k (Lib.bitLen k))):=by
 intro y σ Ps L J T hY s0 hs0
 refine Aj Tryz.func252 Z Z fun X w0=>Ae (fun w h=>(h:J s0 w∧(fun w=>Bc b [S1 (nv k)] 205 w∧True) w)) (Ab (Aa (oj (A4 Z Z Fw (fun w h=>Bc.at1 (h.2.1) Z) (oj (Ao Z Z (.cons Z .nil) fb_184 (len64_spec k hk)  (fun w h=>tR) Z (fun _=>(Ae (fun w h=>h.2) (oj (sub Z Z Z (by have:=bitLen_le hk; omega) ?_))))))))))
 have hlen:=bitLen_le hk
 refine oj (Ak Z Z (on (qn (Ag (Aw (fun (sT:(Nat) × (σ))=>(⟨Ps sT.2∧sT.1≤64∧∀ s',Run T (Ic k sT.1) sT.2 s'→Run T (Ic k (Lib.bitLen k)) s0 s',[(0,.func (.yield y) #[] #[]),(1,Bg b 0),(3,.int .i64 ((sT.1:Int)-1))],L sT.2,fun w=>J sT.2 w∧Bc b [S1 (nv k)] 205 w∧True,sT.1⟩:Hd)) (Lib.bitLen k,s0) (⟨hs0,hlen,fun _ h=>h⟩) (⟨Z,Z,Z,tR⟩) (.refl _) (fun w h=>⟨(h.1),(h.2.1),tR⟩) ?_)))))
 rintro ⟨m,s⟩ ⟨hs,hm,hr⟩
 try dsimp only
 try dsimp only at hs hm hr
 refine Ab (Ab (Aa (oj (mv Z Z (oj (gei Z Z Z (on (qn ?_))))))))
 refine A8 Z (fun ht=>?_) (fun hf=>?_)
 ·obtain ⟨m,rfl⟩:∃ n,m=n+1:=⟨m-1,by omega⟩
  refine Ac (d:=3) (v:=.int .i64 (m:Int)) Z (by congr 1; omega) (Ah (qn (Ab (Ag (Ab (Aa (oj (mv Z Z (oj (A4 Z Z Fw (fun w h=>Bc.at1 (h.2.1) Z) (oj (mv Z Z (oj (shrN Z Z Z Z Z (by omega) (oj (andN (b:=1) Z Z Z Z Z (by have:=Nat.div_le_self k (2 ^ m); omega) (oj (Eu Z Z Z (Ac (d:=16) (v:=.bool (k / 2 ^ m % 2 == 1)) Z (by rw [bits_and1 k m hk]) (oj (yld (own:=[]) hY (x:=k / 2 ^ m % 2 == 1) tR hs Z Z (.cons Z .nil) Z (fun w h=>(h.1)) (fun s2 hP hT=>?_))))))))))))))))))))))
  try dsimp only [List.cons_append,List.nil_append]
  exact kj_J (oj (not Z Z (on (qn (Ap Z (fun h=>by cases h) (fun _=>(Ah (bn (qn (Aa (oj (mv Z Z (oj (sub Z Z Z (by omega) (oj (Ak Z Z (on (qn (Ar (m,s2) (by dsimp only; omega) (⟨hP,by omega,fun s' h=>hr s' (.cons hT h)⟩) (⟨Z,Z,Z,tR⟩) (.refl _) (fun w h=>⟨(h.1.1),(h.2.2.1),tR⟩))))))))))))))))))))
 ·exact A1 (qe (qe (be (As s Z .nil Z ⟨hs,_,Z,hr s (by rw [show m=0 from by omega]; exact .nil)⟩ (.refl _) (fun w h=>(h.1)) (.inr Z)))))
def pw (a k:Nat):Nat:=a ^ k % 4611686018427377339
def powStep (a c:Nat) (b:Bool):Nat:=if b then c*c % 4611686018427377339*a % 4611686018427377339 else c*c % 4611686018427377339
theorem pow_step (a k m:Nat):powStep a (pw a (k / 2 ^ (m+1))) (k / 2 ^ m % 2 == 1)=pw a (k / 2 ^ m):=by
 have e:k / 2 ^ (m+1)=k / 2 ^ m / 2:=by rw [Nat.pow_succ,Nat.div_div_eq_div_mul]
 rw [e]
 generalize k / 2 ^ m=j
 have hj:=Nat.div_add_mod j 2
 have h2:pw a (j / 2)*pw a (j / 2) % 4611686018427377339=pw a (2*(j / 2)):=by
  rw [pw,pw,← Nat.mul_mod,← Nat.pow_add]; congr 2; omega
 rcases Nat.mod_two_eq_zero_or_one j with h | h
 ·rw [h]; simp only [powStep,beq_iff_eq,if_neg (show ¬ ((0:Nat)=1) by omega)]
  rw [h2,show 2*(j / 2)=j from by omega]
 ·rw [h]; simp only [powStep,beq_self_eq_true,if_true]
  rw [h2,pw,pw,Nat.mod_mul_mod,← Nat.pow_succ]; congr 2; omega
theorem pow_fold (a k:Nat):∀ m,(Ic k m).foldl (powStep a) (pw a (k / 2 ^ m))=pw a k
 | 0=>by simp [Ic]
 | m+1=>by rw [Ic,List.foldl_cons,pow_step,pow_fold a k m]
theorem pow_all (a k:Nat) {m:Nat} (h:k < 2 ^ m):(Ic k m).foldl (powStep a) 1=pw a k:=by
 have:=pow_fold a k m
 rwa [Nat.div_eq_of_lt h] at this
theorem pw_lt (a k:Nat):pw a k < 4611686018427377339:=Nat.mod_lt _ (by decide)
theorem pw_G:pw 4 2305843009213688669=1:=by
 rw [← pow_all 4 2305843009213688669 (m:=61) (by decide)]
 kernel_rfl
theorem bitLen_lt {k:Nat} (hk:k < 18446744073709551616):k < 2 ^ Lib.bitLen k:=by
 by_cases h:k=0
 ·subst h; decide
 ·exact (bitLen_pos 64 k (by simpa using hk) (by omega) h).2.2.2
def el (a:Int):Bool:=decide (1≤a) && (decide (a < 4611686018427377339) && decide (pw a.toNat 2305843009213688669=1))
theorem Gh {a:Int}:el a=true↔1≤a∧a < 4611686018427377339∧pw a.toNat 2305843009213688669=1:=by simp [el]
abbrev iv (n:Int):Value:=.int .i64 n
theorem digits_spec (k:Nat):Ay Tryz.prog 210 [nv k] [] (fun _=>True) (fun r:Nat=>⟨True,.func (.func 252) #[] #[Bg r 0],[],fun w=>Bc r [S1 (nv k)] 205 w∧True⟩):=by
 refine Aj Tryz.func210 Z Z fun X w0=>(Ab (Aa (oj (box1 Z Z Z (fun r1=>(oj (Ak Z Z (on (qn (Ab (Aa (oj (mkF Z .nil (.cons Z .nil) (oj (Ak Z Z (on (qn (Af (Al (Am 0 _ _ Z) ?_)))))))))))))))))))
 try dsimp only [List.eraseIdx]
 exact As r1 Z (.tmp Z .nil) Z tR .slnil (fun w h=>⟨(h.1.1),tR⟩) (.inl Z)
theorem power_spec (a k:Nat) (ha:a < 18446744073709551616) (hk:k < 18446744073709551616):Ay Tryz.prog 144 [nv a,nv k] [] (fun _=>True) (fun _:Unit=>⟨True,nv (pw a k),[],fun _=>True⟩):=by
 refine Dv Tryz.func144 Z Z fun X w0=>(Ab (Aa (oj (box1 Z Z Z (fun r2=>(oj (Ak Z Z (on (qn (Ab (Aa (oj (C7 Z zok_205 (fun r5=>(oj (Cr Z Z Fw Z .head (.head Z) Z (on (qn (Ab (Ab (Aa ?_)))))))))))))))))))))
 refine oj (mv Z Z (oj (call Z Z (.cons Z .nil) fb_210 (digits_spec k)  (fun w h=>tR) ?_)))
 rintro rb _
 try dsimp only
 refine on (qn (Ag ?_))
 refine cj_range Z Z fb_252 (digits_it k rb hk) (fun (sT:(Nat))=>(⟨sT < 4611686018427377339,[],[bx r5 [S1 (nv sT)] 205,bx r2 [S1 (nv a)] 205],fun _=>True,0⟩:Hd)) (fun c e c'=>c'=powStep a c e) (1) (by dsimp only; omega) (.refl _) (fun w h=>⟨(h.1.1),tR⟩) (fun w h=>tR) (fun _=>⟨Z,Z⟩) ?_ ?_
 ·rintro c e hp he rl rd fn tm X1 w1
  try dsimp only [List.cons_append,List.nil_append]
  refine Aa (oj (Ak Z Z (on (qn (Fy (.tail (.tail .head)) (Ag (Ab (Aa (oj (Bh Z Z Fw (.head _) (Z) (oj (Bh Z Z Fw (.head _) (Z) (oj (Ao Z Z (.cons Z (.cons Z .nil)) fb_189 (times_spec c c hp (by omega))  (fun w h=>tR) Z (fun _=>(Ae (fun w h=>h.2) (oj (Cr Z Z Fw Z .head (.head Z) Z (on (qn (Ab ?_)))))))))))))))))))))
  refine Aa (oj (mv Z Z (on (qn ?_))))
  refine Ap Z (fun ht=>?_) (fun hf=>?_)
  ·exact Aa (oj (Bh Z Z Fw (.head _) (Z) (oj (Bh Z Z Fw (.tail _ (.head _)) (Z) (oj (Ao Z Z (.cons Z (.cons Z .nil)) fb_189 (times_spec _ a (Nat.mod_lt _ (by decide)) ha)  (fun w h=>tR) Z (fun _=>(Ae (fun w h=>h.2) (oj (Cr Z Z Fw Z .head (.head Z) Z (on (bn (Ik (c*c % 4611686018427377339*a % 4611686018427377339) (.tail (.tail .head)) Z (⟨Nat.mod_lt _ (by decide),by subst ht; rfl⟩) (.refl _) (fun w h=>tR))))))))))))))
  ·exact Ah (bn (Ik (c*c % 4611686018427377339) (.tail (.tail .head)) Z (⟨Nat.mod_lt _ (by decide),by subst hf; rfl⟩) (.refl _) (fun w h=>tR)))
 ·rintro c rd3 hp ⟨xs,hG,hrun⟩
  try dsimp only [List.cons_append,List.nil_append]
  have hc:=hrun.foldl (fun _ _ _ h=>h)
  rw [hG,pow_all a k (bitLen_lt hk)] at hc
  exact bn (qn (Ab (Aa (oj (Bh Z Z Fw (.tail _ (.head _)) (Z) (oj (Ak Z Z (on (qn (Af (retM (ds:=[rd3]) () Z (.refl _) Z (.tmp Z .nil) (by rw [hc]; rfl) tR (Bl _) (fun w h=>tR) (.inl Z))))))))))))
theorem wrap_u {a:Int} (h0:0≤a) (h1:a < 18446744073709551616):Value.int .u64 (IntKind.wrap .u64 a)=nv a.toNat:=by
 rw [C4 ⟨h0,h1⟩]; congr 1; omega
def inQ (k:Int):Bool:=decide (0≤k) && decide (k < 2305843009213688669)
theorem inQ_iff {k:Int}:inQ k=true↔0≤k∧k < 2305843009213688669:=by simp [inQ]
def exE (a k:Int):Int:=if el a=true then (if inQ k=true then 0 else 1) else 40
def exV (a k:Int):Int:=if el a=true∧inQ k=true then (pw a.toNat k.toNat:Nat) else 0
def Iz (k:Int):Int:=if inQ k=true then (pw 4 k.toNat:Nat) else 0
def baE (k:Int):Int:=if inQ k=true then 0 else 1
theorem el_G:el 4=true:=Gh.2 ⟨by omega,by omega,pw_G⟩
theorem ex_G (k:Int):exV 4 k=Iz k∧exE 4 k=baE k:=by
 unfold exV exE Iz baE
 rw [el_G]
 simp
def elE (a:Int):Int:=if el a=true then 0 else 40
theorem Dq (a:Int):Ay Tryz.prog 69 [iv a] [] (fun _=>True) (fun _:Unit=>⟨True,iv (elE a),[],fun _=>True⟩):=by
 refine Aj Tryz.func69 Z Z fun X w0=>(Ab (Aa (oj (Ak Z Z (on (qn (Ab (Ab (Aa (oj (mv Z Z (oj (Dd Z Z Z (oj (mv Z Z ?_)))))))))))))))
 refine B5 (d:=5) Z (fun ht=>?_) (fun hf=>?_)
 ·refine oj (gf Z Z Z Z Z Z (oj (gf Z Z Z Z Z Z (oj (Cl Z Z Z (oj (mv Z Z (oj (gf Z Z Z Z Z Z (oj (gf Z Z Z Z Z Z (oj (gf Z Z Z Z Z Z (oj (gf Z Z Z Z Z Z (oj (Cl Z Z Z (on (qn (Ap Z (fun _=>(Ab (Aa (oj (Ak Z Z (on ?_)))))) (fun h=>by cases h)))))))))))))))))))))
  exact qn (Af (qr (Ac (d:=2) (v:=iv (elE a)) Z (by rw [elE,if_neg (fun h=>by have:=Gh.1 h; omega)]) (As () Z (.tmp Z .nil) Z tR .slnil (fun w h=>tR) (.inl Z)))))
 ·refine oj (gt Z Z Z ((mv Z Z (oj (gt Z Z Z ((gei Z Z Z (oj (Df Z Z Z (oj (mv Z Z ?_)))))))))))
  refine B5 (d:=9) Z (fun ht=>?_) (fun hf=>?_)
  ·refine oj (gf Z Z Z Z Z Z (oj (gf Z Z Z Z Z Z (oj (gf Z Z Z Z Z Z (oj (gf Z Z Z Z Z Z (oj (Cl Z Z Z (on (qn (Ap Z (fun _=>(Ab (Aa (oj (Ak Z Z (on (qn (Af (qr (Ac (d:=2) (v:=iv (elE a)) Z (by rw [elE,if_neg (fun h=>by have:=Gh.1 h; omega)]) ?_)))))))))) (fun h=>by cases h)))))))))))))
   exact As () Z (.tmp Z .nil) Z tR .slnil (fun w h=>tR) (.inl Z)
  ·refine oj (gt Z Z Z ((mv Z Z (oj (gt Z Z Z ((Ig Z Tryz.underlying3 Tryz.underlying205 Z (Ac (d:=11) (v:=nv a.toNat) Z (by rw [wrap_u (by omega) (by omega)]) (oj (gt Z Z Z ((Ao Z Z (.cons Z (.cons Z .nil)) fb_144 (power_spec a.toNat 2305843009213688669 (by omega) (by omega))  (fun w h=>tR) Z (fun _=>(Ae (fun w h=>h.2) (oj (gt Z Z Z ((G2 Z Z Z (oj (Df Z Z Z (on (qn ?_))))))))))))))))))))))
   refine C5 Z (fun ht=>?_) (fun hf=>?_)
   ·exact Ab (Aa (oj (Ak Z Z (on (qn (Af (qr (Ac (d:=2) (v:=iv (elE a)) Z (by rw [elE,if_neg (fun h=>by have:=Gh.1 h; omega)]) (As () Z (.tmp Z .nil) Z tR .slnil (fun w h=>tR) (.inl Z))))))))))
   ·exact Ah (qn (Ab (Aa (oj (Ak Z Z (on (qn (Af (Ac (d:=2) (v:=iv (elE a)) Z (by rw [elE,if_pos (Gh.2 ⟨by omega,by omega,by omega⟩)]) (As () Z (.tmp Z .nil) Z tR .slnil (fun w h=>tR) (.inl Z)))))))))))
theorem exp_spec (a k:Int):Ay Tryz.prog 103 [iv a,iv k] [] (fun _=>True) (fun _:Unit=>⟨True,.tuple #[iv (exV a k),iv (exE a k)],[],fun _=>True⟩):=by
 refine Aj Tryz.func103 Z Z fun X w0=>(Ab (Aa (oj (Ak Z Z (oj (Ak Z Z (on (qn (Ab (Ab (Aa (oj (mv Z Z (oj (Ao Z Z (.cons Z .nil) J2 (Dq a)  (fun w h=>tR) Z (fun _=>(Ae (fun w h=>h.2) (oj (Ak Z Z (on (qn ?_)))))))))))))))))))))
 refine Ab (Aa (oj (mv Z Z (oj (G2 Z Z Z (on (qn ?_)))))))
 refine C5 Z (fun ht=>?_) (fun hf=>?_)
 ·have he : ¬ el a=true:=fun h=>by rw [elE,if_pos h] at ht; omega
  exact Ab (Aa (oj (mv Z Z (oj (Ak Z Z (oj (Ak Z Z (on (qn (Af (qr (Ac (d:=4) (v:=iv (exV a k)) Z (by rw [exV,if_neg (fun h=>he h.1)]) (Ac (d:=5) (v:=iv (exE a k)) Z (by rw [exE,if_neg he,elE,if_neg he]) (As () Z (.tmp Z (.tmp Z .nil)) Z tR .slnil (fun w h=>tR) (.inl Z)))))))))))))))
 ·have he:el a=true:=by
   by_cases h:el a=true
   ·exact h
   ·rw [elE,if_neg h] at hf; omega
  have hel:=Gh.1 he
  refine Ah (qn (Ab (Ab (Aa (oj (mv Z Z (oj (Dd Z Z Z (oj (mv Z Z ?_))))))))))
  refine B5 (d:=14) Z (fun ht=>?_) (fun hf=>?_)
  ·refine oj (gf Z Z Z Z Z Z (oj (gf Z Z Z Z Z Z (oj (Cl Z Z Z (on (qn (Ap Z (fun _=>(Ab (Aa (oj (Ak Z Z (oj (Ak Z Z (on (qn (Af (qr ?_))))))))))) (fun h=>by cases h)))))))))
   have hq : ¬ inQ k=true:=fun h=>by have:=inQ_iff.1 h; omega
   exact Ac (d:=4) (v:=iv (exV a k)) Z (by rw [exV,if_neg (fun h=>hq h.2)]) (Ac (d:=5) (v:=iv (exE a k)) Z (by rw [exE,if_pos he,if_neg hq]) (As () Z (.tmp Z (.tmp Z .nil)) Z tR .slnil (fun w h=>tR) (.inl Z)))
  ·refine oj (gt Z Z Z ((mv Z Z (oj (gt Z Z Z ((gei Z Z Z (oj (Df Z Z Z (on (qn ?_)))))))))))
   refine A8 Z (fun ht=>?_) (fun hf=>?_)
   ·refine Ab (Aa (oj (Ak Z Z (oj (Ak Z Z (on (qn (Af (qr ?_)))))))))
    have hq : ¬ inQ k=true:=fun h=>by have:=inQ_iff.1 h; omega
    exact Ac (d:=4) (v:=iv (exV a k)) Z (by rw [exV,if_neg (fun h=>hq h.2)]) (Ac (d:=5) (v:=iv (exE a k)) Z (by rw [exE,if_pos he,if_neg hq]) (As () Z (.tmp Z (.tmp Z .nil)) Z tR .slnil (fun w h=>tR) (.inl Z)))
   ·refine Ah (qn (Ab (Aa (oj (mv Z Z (oj (Ig Z Tryz.underlying3 Tryz.underlying205 Z (Ac (d:=19) (v:=nv a.toNat) Z (by rw [wrap_u (by omega) (by omega)]) (oj (mv Z Z (oj (Ig Z Tryz.underlying3 Tryz.underlying205 Z (Ac (d:=21) (v:=nv k.toNat) Z (by rw [wrap_u (by omega) (by omega)]) (oj (Ao Z Z (.cons Z (.cons Z .nil)) fb_144 (power_spec _ _ (by omega) (by omega))  (fun w h=>tR) Z (fun _=>(Ae (fun w h=>h.2) (oj (Ig Z Tryz.underlying205 Tryz.underlying3 Z ?_)))))))))))))))))))
    have hpl:=pw_lt a.toNat k.toNat
    refine Ac (d:=23) (v:=iv (pw a.toNat k.toNat:Nat)) Z (by rw [Dr (by omega)]) (oj (Ak Z Z (oj (Ak Z Z (on (qn (Af ?_)))))))
    have hq:inQ k=true:=inQ_iff.2 ⟨by omega,by omega⟩
    exact Ac (d:=4) (v:=iv (exV a k)) Z (by rw [exV,if_pos ⟨he,hq⟩]) (Ac (d:=5) (v:=iv (exE a k)) Z (by rw [exE,if_pos he,if_pos hq]) (As () Z (.tmp Z (.tmp Z .nil)) Z tR .slnil (fun w h=>tR) (.inl Z)))
theorem base_spec (k:Int):Ay Tryz.prog 125 [iv k] [] (fun _=>True) (fun _:Unit=>⟨True,.tuple #[iv (Iz k),iv (baE k)],[],fun _=>True⟩):=by
 refine Aj Tryz.func125 Z Z fun X w0=>(Ab (Aa (oj (Ak Z Z (oj (Ak Z Z (on (qn (Ab (Aa (oj (mv Z Z (oj (Ao Z Z (.cons Z (.cons Z .nil)) fb_103 (exp_spec 4 k)  (fun w h=>tR) Z (fun _=>(Ae (fun w h=>h.2) (oj (ext Z Z Z (Ac (d:=6) (v:=iv (Iz k)) Z (by show iv _=_; rw [(ex_G k).1]) (oj (ext Z Z Z (Ac (d:=7) (v:=iv (baE k)) Z (by show iv _=_; rw [(ex_G k).2]) ?_))))))))))))))))))))))
 exact oj (Ak Z Z (oj (Ak Z Z (on (qn (Af (As () Z (.tmp Z (.tmp Z .nil)) Z tR .slnil (fun w h=>tR) (.inl Z))))))))
def rotl (x k:Int):Int :=
 let s:=bits .and .u64 (IntKind.u64.wrap k) 31
 bits .or .u32 (IntKind.u32.wrap (x*2 ^ s.toNat)) (x / 2 ^ (IntKind.u64.wrap (32-s)).toNat)
def Hm (k:Int):Prop:=(0≤bits .and .u64 (IntKind.u64.wrap k) 31∧bits .and .u64 (IntKind.u64.wrap k) 31≤32)∧0≤IntKind.u64.wrap (32-bits .and .u64 (IntKind.u64.wrap k) 31)∧IntKind.u64.wrap (32-bits .and .u64 (IntKind.u64.wrap k) 31)≤32
theorem E3 (x k:Int) (h:Hm k):Ay Tryz.prog 259 [.int .u32 x,.int .i64 k] [] (fun _=>True) (fun _:Unit=>⟨True,.int .u32 (rotl x k),[],fun _=>True⟩):=by
 refine Aj Tryz.func259 Z Z fun X w0=>(Ab (Aa (oj (Ak Z Z (on (qn (Ab (Aa (oj (mv Z Z (oj (Ig Z Tryz.underlying3 Tryz.underlying177 Z (oj (band Z Z Z (oj (Ak Z Z (on (qn (Ab (Aa ?_))))))))))))))))))))
 exact oj (mv Z Z (oj (mv Z Z (oj (shl Z Z Z h.1 (oj (mv Z Z (oj (mv Z Z (oj (subw Z Z Z (oj (shr Z Z Z h.2 (oj (bor Z Z Z (oj (Ak Z Z (on (qn (Af (As () Z (.tmp Z .nil) Z tR .slnil (fun w h=>tR) (.inl Z))))))))))))))))))))))
def be32 (bs:List UInt8):Int:=bs.foldl (fun n c=>bits .or .u32 (IntKind.u32.wrap (n*2 ^ (8:Int).toNat)) (IntKind.u32.wrap (c.toNat:Int))) 0
theorem be32_snoc (bs:List UInt8) (c:UInt8):be32 (bs++[c])=bits .or .u32 (IntKind.u32.wrap (be32 bs*2 ^ (8:Int).toNat)) (IntKind.u32.wrap (c.toNat:Int)):=by unfold be32; rw [List.foldl_append]; rfl
theorem A7 {α:Type} {l:List α} {i:Nat} {c:α} (h:l[i]? = some c):l.take (i+1)=l.take i++[c]:=by
 have:=List.take_add_one (l:=l) (i:=i)
 rw [h] at this
 simpa using this
theorem F6 {bs:List UInt8} {i:Nat} {c:UInt8} (h:bs[i]? = some c):(An bs)[i]? = some (.int .u8 (c.toNat:Int)):=by simp [An,h]
theorem word_spec (bs:List UInt8) (a:Option Addr) (n cap:Nat) (hn:4≤n) (hb:bs.length=n) (hcap:n≤cap):Ay Tryz.prog 258 [.slice a n cap] [] (fun w=>Sl 1 n (An bs) (.slice a n cap) w∧True) (fun _:Unit=>⟨True,.int .u32 (be32 (bs.take 4)),[],fun _=>True⟩):=by
 refine Aj Tryz.func258 Z Z fun X w0=>(Ab (Aa (oj (Ak Z Z (on (qn (Ab (Ab (Aa (oj (mv Z Z (oj (slc (h:=4) Z Z Tryz.underlying53 Bv Z ⟨_,Z,by omega⟩ (.inl Z) Z (Ac (d:=6) (v:=.slice a 4 cap) Z (by simp [Addr.add]) (oj (Bn Z Z Tryz.underlying53 Z (oj (mv Z Z (on (qn ?_))))))))))))))))))))
 refine Ag (Aw (fun (sT:(Nat))=>(⟨sT≤4,[(2,.int .u32 (be32 (bs.take sT))),(6,.slice a 4 cap),(7,.int .i64 (4:Nat)),(8,.int .i64 (sT:Int))],[],fun w=>Sl 1 n (An bs) (.slice a n cap) w∧True,4-sT⟩:Hd)) (0) (by dsimp only; omega) (⟨Z,Z,Z,Z,tR⟩) .slnil (fun w h=>⟨(h.1),tR⟩) ?_)
 rintro i hi
 try dsimp only
 refine Ab (Aa (oj (Dd Z Z Z (on (qn (Ab ?_))))))
 refine A8 Z (fun ht=>?_) (fun hf=>?_)
 ·obtain ⟨c,hc⟩:∃ c,bs[i]? = some c:=⟨_,List.getElem?_eq_getElem (by omega)⟩
  refine Ah (qn (Ab (Ag (Ab (Aa (oj (Fc Z Z Z Tryz.underlying53 Bv (by omega) (fun w h=>Sl.some (h.1) (by omega)) (oj (A4 Z Z Bv (fun w h=>Sl.elem1 (h.1) (F6 hc)) (oj (Ak Z Z (on (qn (Aa (oj (mv Z Z (oj (shl Z Z Z (by decide) (oj (mv Z Z (oj (Ig Z Tryz.underlying5 Tryz.underlying252 Z ?_))))))))))))))))))))))
  exact oj (bor Z Z Z (oj (Ak Z Z (on (bn (qn (Aa (oj (add Z Z Z (by omega) (oj (mv Z Z (on (qn (Ac (d:=2) (v:=.int .u32 (be32 (bs.take (i+1)))) Z (by rw [A7 hc,be32_snoc]) (Ar (i+1) (by dsimp only; omega) (by dsimp only; omega) (⟨Z,Z,Z,Z,tR⟩) .slnil (fun w h=>⟨(h.1),tR⟩))))))))))))))))
 ·have h4:i=4:=by omega
  subst h4
  exact A1 (qe (qe (be (qn (Ab (Aa (oj (mv Z Z (oj (Ak Z Z (on (qn (Af (As () Z (.tmp Z .nil) Z tR .slnil (fun w h=>tR) (.inl Z)))))))))))))))
def rot3 (v a b c:Int):Int:=bits .xor .u32 (bits .xor .u32 (rotl v (IntKind.i64.wrap (0-a))) (rotl v (IntKind.i64.wrap (0-b)))) (rotl v (IntKind.i64.wrap (0-c)))
def putI (xs:List UInt8) (o m v:Nat):Nat→List UInt8
 | 0=>xs
 | i+1=>(putI xs o m v i).set (o+(m-1-i)) (UInt8.ofNat (v / 2 ^ (8*i)))
theorem Kf (xs:List UInt8) (o m v:Nat):∀ i,(putI xs o m v i).length=xs.length
 | 0=>rfl
 | i+1=>by rw [putI,List.length_set,Kf xs o m v i]
theorem byte_of (n:Nat):IntKind.wrap .u8 (n:Int)=((UInt8.ofNat n).toNat:Int):=by
 rw [H0,UInt8.toNat_ofNat']
 rfl
theorem rotated_spec (v a b c:Int) (h1:Hm (IntKind.i64.wrap (0-a))) (h2:Hm (IntKind.i64.wrap (0-b))) (h3:Hm (IntKind.i64.wrap (0-c))):Ay Tryz.prog 260 [.int .u32 v,.int .i64 a,.int .i64 b,.int .i64 c] [] (fun _=>True) (fun _:Unit=>⟨True,.int .u32 (rot3 v a b c),[],fun _=>True⟩):=by
 refine Aj Tryz.func260 Z Z fun X w0=>(Ab (Aa (oj (Ak Z Z (on (qn (Ab (Aa (oj (mv Z Z (oj (mv Z Z (oj (negw Z Z (oj (Ao Z Z (.cons Z (.cons Z .nil)) Jl (E3 _ _ h1)  (fun w h=>tR) Z (fun _=>(Ae (fun w h=>h.2) (oj (mv Z Z (oj (mv Z Z (oj (negw Z Z ?_))))))))))))))))))))))))
 exact oj (Ao Z Z (.cons Z (.cons Z .nil)) Jl (E3 _ _ h2)  (fun w h=>tR) Z (fun _=>(Ae (fun w h=>h.2) (oj (bxor Z Z Z (oj (mv Z Z (oj (mv Z Z (oj (negw Z Z (oj (Ao Z Z (.cons Z (.cons Z .nil)) Jl (E3 _ _ h3)  (fun w h=>tR) Z (fun _=>(Ae (fun w h=>h.2) (oj (bxor Z Z Z (oj (Ak Z Z (on (qn (Af (As () Z (.tmp Z .nil) Z tR .slnil (fun w h=>tR) (.inl Z))))))))))))))))))))))))
theorem put_spec (r o m cap N:Nat) (te:TypeId) (xs:List UInt8) (hx:xs.length=N) (v:Nat) (hm:m≤8) (hN:o+m≤N):Ay Tryz.prog 223 [.slice (some ⟨r,o,none⟩) m cap,nv v] [bx r [It N xs hx] te] (fun _=>True) (fun _:Unit=>⟨True,.tuple #[],[bx r [It N (putI xs o m v m) ((Kf xs o m v m).trans hx)] te],fun _=>True⟩):=by
 refine Aj Tryz.func223 Z Z fun X w0=>(Ab (Aa (oj (mv Z Z (oj (Bn Z Z Tryz.underlying53 Z (oj (mv Z Z (on (qn (Ag (Aw (fun (sT:(Nat))=>(⟨sT≤m,[(0,.slice (some ⟨r,o,none⟩) m cap),(1,nv v),(6,.int .i64 (m:Int)),(7,.int .i64 (sT:Int))],[bx r [It N (putI xs o m v sT) ((Kf xs o m v sT).trans hx)] te],fun _=>True,m-sT⟩:Hd)) (0) (by dsimp only; omega) (⟨Z,Z,Z,Z,tR⟩) (.refl _) (fun w h=>tR) ?_))))))))))))
 rintro i hi
 try dsimp only
 refine Ab (Aa (oj (Dd Z Z Z (on (qn (Ab ?_))))))
 refine A8 Z (fun ht=>?_) (fun hf=>?_)
 ·refine Ah (qn (Ab (Ag (Ab (Aa (oj (mv Z Z (oj (Ak Z Z (on (qn (Aa (oj (mv Z Z (oj (mv Z Z (oj (Bn Z Z Tryz.underlying53 Z (oj (sub Z Z Z (by omega) (oj (mv Z Z ?_))))))))))))))))))))))
  refine oj (sub Z Z Z (by omega) (oj (mv Z Z (oj (mv Z Z (oj (mul Z Z Z (by omega) (oj (shrN Z Z Z Z (show ((8:Int)*i)=((8*i:Nat):Int) by omega) (by omega) (oj (Ig Z Tryz.underlying205 Tryz.underlying5 Z (Ac (d:=20) Z (by rw [byte_of]) (oj (ixR (n':=o+(m-1-i)) Z Z Z Tryz.underlying53 Bv (by omega) (by omega) (oj (stX ([It N (putI xs o m v (i+1)) ((Kf xs o m v (i+1)).trans hx)]) Z Z Bv Z .head (by rw [sby_len]; omega) (sby_set _ _) (on (bn (qn (Aa (oj (add Z Z Z (by omega) (oj (mv Z Z (on ?_)))))))))))))))))))))))))
  exact qn (Ar (i+1) (by dsimp only; omega) (by dsimp only; omega) (⟨Z,Z,Z,Z,tR⟩) (.refl _) (fun w h=>tR))
 ·have h4:i=m:=by omega
  subst h4
  exact A1 (qe (qe (be (As () Z .nil Z tR (.refl _) (fun w h=>tR) (.inr Z)))))
end Go.Chx
