/- Part of the proof that the law CommitsMembers holds. -/
import Derived.Test.YtegbaopejhpnkaaGreatDoorAa
import Derived.Test.YtegbaopejhpnkaaGreatDoorAh
import Derived.Test.YtegbaopejhpnkaaGreatDoorAk
import Derived.Test.YtegbaopejhpnkaaGreatDoorAm
import Derived.Test.YtegbaopejhpnkaaGreatDoorAu
import Derived.Test.YtegbaopejhpnkaaGreatDoorAv
namespace Go.Chx
open Go Go.Proofs
set_option maxHeartbeats 1000000
set_option maxRecDepth 4000
def wpB (u:Int) (n:Nat):Bool:=el u && (decide (16≤n) && decide (n≤65552))
def wpE (u:Int) (n:Nat):Int:=if wpB u n then 0 else 90
theorem Kb {u:Int} {n:Nat}:wpE u n=0↔wpB u n=true:=by unfold wpE; split <;> simp_all
def bxB (x:Bxx):Bool:=(decide (1≤x.n) && decide (x.n < 1024)) && (decide (1≤x.lv) && decide (x.lv≤9)) && wpB x.u x.b.length
def WlOk (wl:List Wlc) (i:Nat):Prop:=∃ w,wl[i]? = some w∧Eo w.d=true∧wpB w.u w.b.length=true∧∀ p,0 < i→wl[i-1]? = some p→p.d < w.d
structure CkP (c:Cm):Prop where
 f0:0≤c.folder
 f1:c.folder < 16
 e0:1≤c.epoch
 e1:c.epoch≤1099511627776
 au:Eo c.author=true
 fm:FmP c.ch
 pl:c.path.length=10
 bl:c.bx.length≤1024
 wl:c.wl.length≤512
 pe:∀ p∈c.path,el p=true
 be:∀ b∈c.bx,bxB b=true
 we:∀ i,i < c.wl.length→WlOk c.wl i
open Classical in
noncomputable def ckE (c:Cm):Int:=if CkP c then 0 else 220
theorem ckE_ok {c:Cm} (h:CkP c):ckE c=0:=by unfold ckE; rw [if_pos h]
theorem Dy {c:Cm} (h : ¬ CkP c):ckE c=220:=by unfold ckE; rw [if_neg h]
theorem ckE_iff {c:Cm}:ckE c=0↔CkP c:=by
 by_cases h:CkP c
 ·simp [ckE_ok h,h]
 ·simp [Dy h,h]
theorem wcheck_spec (u:Int) (a:Option Addr) (n cap:Nat) (hn:n≤1000000000000):Ay Tryz.prog 70 [av [S1 (iv u),S1 (.slice a n cap)]] [] (fun _=>True) (fun _:Unit=>⟨True,iv (wpE u n),[],fun _=>True⟩):=by
 refine Aj Tryz.func70 Z Z fun X w0=>(Ab (Aa (oj (C6 Z Z (fun r1=>(Al (Am 0 _ _ Z) ?_))))))
 try dsimp only [List.eraseIdx]
 refine oj (Ak Z Z (on (qn (Ab (Ab (Aa (oj (A2 (o':=1) Z Z H5 Bt Z (oj (A4 Z Z Bt (fun w h=>Bc.at1 h.1.1 Z) (oj (Bn Z Z Tryz.underlying53 Z (oj (Ak Z Z (on (qn (Ab (Aa (oj (A2 (o':=0) Z Z Kj Ai Z (oj (A4 Z Z Ai (fun w h=>Bc.at1 h.1.1 Z) ?_))))))))))))))))))))))
 refine oj (Ao Z Z (.cons Z .nil) J2 (Dq _)  (fun w h=>tR) Z (fun _=>(Ae (fun w h=>h.2) (oj (G2 Z Z Z (oj (mv Z Z ?_)))))))
 refine kj_ne (d:=11) Z (fun h1=>?_) (fun h1=>?_)
 ·refine oj (gf Z Z Z Z Z Z (oj (gf Z Z Z Z Z Z (oj (Cl Z Z Z (oj (mv Z Z (oj (gf Z Z Z Z Z Z (oj (gf Z Z Z Z Z Z (oj (Cl Z Z Z (on (qn (Ap Z (fun _=>(Ab (Aa (oj (Ak Z Z (on (qn (Af ?_)))))))) (fun h=>by cases h)))))))))))))))))
  exact qr (Ac (d:=2) (v:=iv (wpE u n)) Z (by rw [wpE,if_neg]; intro h; simp [wpB,elE] at h h1; simp_all) (As () Z (.tmp Z .nil) Z tR .slnil (fun w h=>tR) (.inl Z)))
 ·refine oj (gt Z Z Z ((mv Z Z (oj (gt Z Z Z ((Dd Z Z Z (oj (Df Z Z Z (oj (mv Z Z ?_)))))))))))
  refine B5 (d:=15) Z (fun h2=>?_) (fun h2=>?_)
  ·exact oj (gf Z Z Z Z Z Z (oj (gf Z Z Z Z Z Z (oj (Cl Z Z Z (on (qn (Ap Z (fun _=>(Ab (Aa (oj (Ak Z Z (on (qn (Af (qr (Ac (d:=2) (v:=iv (wpE u n)) Z (by rw [wpE,if_neg]; intro h; simp [wpB] at h; omega) (As () Z (.tmp Z .nil) Z tR .slnil (fun w h=>tR) (.inl Z)))))))))))) (fun h=>by cases h)))))))))
  ·refine oj (gt Z Z Z ((mv Z Z (oj (gt Z Z Z ((gti Z Z Z (oj (Df Z Z Z (on (qn ?_)))))))))))
   refine A8 Z (fun h3=>?_) (fun h3=>?_)
   ·exact Ab (Aa (oj (Ak Z Z (on (qn (Af (qr (Ac (d:=2) (v:=iv (wpE u n)) Z (by rw [wpE,if_neg]; intro h; simp [wpB] at h; omega) (As () Z (.tmp Z .nil) Z tR .slnil (fun w h=>tR) (.inl Z))))))))))
   ·exact Ah (qn (Ab (Aa (oj (Ak Z Z (on (qn (Af (Ac (d:=2) (v:=iv (wpE u n)) Z (by rw [wpE,if_pos]; simp [wpB]; exact ⟨Ed.1 (by simpa using h1),by omega,by omega⟩) (As () Z (.tmp Z .nil) Z tR .slnil (fun w h=>tR) (.inl Z)))))))))))
theorem kcheck_spec (c:Cm) (hb:CmB c) (hbl:∀ x∈c.bx,x.b.length≤1000000000) (hwl:∀ x∈c.wl,x.b.length≤1000000000):Ay Tryz.prog 15 [av c.segs] [] (fun w=>CF1 c w∧CF2 c w∧CF3 c w∧CF5 c w∧True) (fun _:Unit=>⟨True,iv (ckE c),[],fun _=>True⟩):=by
 refine Aj Tryz.func15 Z Z fun X w0=>?_
 have hb1:=hb.h1
 have hb2:=hb.h2
 have hb3:=hb.h3
 have hb4:=hb.h4
 refine Ab (Aa (oj (C6 Z Z (fun r1=>(Al (Am 0 _ _ Z) ?_)))))
 try dsimp only [List.eraseIdx]
 refine oj (Ak Z Z (on (qn (Ab (Ab (Aa (oj (A2 (o':=0) Z Z Jj Ai Z (oj (A4 Z Z Ai (fun w h=>Bc.at1 h.1.1 Z) (oj (Ao Z Z (.cons Z .nil) fb_66 (isFolder_spec _)  (fun w h=>tR) Z (fun _=>(Ae (fun w h=>h.2) (oj (not Z Z (oj (mv Z Z ?_))))))))))))))))))
 refine Dn (d:=13) Z (fun h1=>?_) (fun h1=>?_)
 ·refine oj (gf Z Z Z Z Z Z (oj (gf Z Z Z Z Z Z (oj (gf Z Z Z Z Z Z (oj (Cl Z Z Z (oj (mv Z Z (oj (gf Z Z Z Z Z Z (oj (gf Z Z Z Z Z Z (oj (gf Z Z Z Z Z Z (oj (Cl Z Z Z (oj (mv Z Z (oj (gf Z Z Z Z Z Z (oj (gf Z Z Z Z Z Z (oj (gf Z Z Z Z Z Z (oj (gf Z Z Z Z Z Z (oj (Cl Z Z Z (oj (mv Z Z ?_)))))))))))))))))))))))))))))))
  refine oj (gf Z Z Z Z Z Z (oj (gf Z Z Z Z Z Z (oj (gf Z Z Z Z Z Z (oj (gf Z Z Z Z Z Z (oj (Cl Z Z Z (oj (mv Z Z (oj (gf Z Z Z Z Z Z (oj (gf Z Z Z Z Z Z (oj (gf Z Z Z Z Z Z (oj (gf Z Z Z Z Z Z (oj (Cl Z Z Z (oj (mv Z Z (oj (gf Z Z Z Z Z Z (oj (gf Z Z Z Z Z Z (oj (gf Z Z Z Z Z Z (oj (gf Z Z Z Z Z Z ?_)))))))))))))))))))))))))))))))
  refine oj (Cl Z Z Z (oj (mv Z Z (oj (gf Z Z Z Z Z Z (oj (gf Z Z Z Z Z Z (oj (gf Z Z Z Z Z Z (oj (gf Z Z Z Z Z Z (oj (Cl Z Z Z (on (qn (Ap Z (fun _=>(Ab (Aa (oj (Ak Z Z (on (qn (Af ?_)))))))) (fun h=>by cases h)))))))))))))))))
  refine qr ?_
  have hb : ¬ CkP c:=fun hC=>by
   have:=hC.f0
   have:=hC.f1
   simp at h1
   omega
  exact Ac (d:=2) (v:=iv (ckE c)) Z (by rw [Dy hb]) (As () Z (.tmp Z .nil) Z tR .slnil (fun w h=>tR) (.inl Z))
 ·refine oj (gt Z Z Z ((A2 (o':=1) Z Z Fj Ai Z (oj (gt Z Z Z ((A4 Z Z Ai (fun w h=>Bc.at1 h.1.1 Z) (oj (gt Z Z Z ((Dd Z Z Z (oj (Df Z Z Z (oj (mv Z Z ?_)))))))))))))))
  refine B5 (d:=18) Z (fun h2=>?_) (fun h2=>?_)
  ·refine oj (gf Z Z Z Z Z Z (oj (gf Z Z Z Z Z Z (oj (gf Z Z Z Z Z Z (oj (Cl Z Z Z (oj (mv Z Z (oj (gf Z Z Z Z Z Z (oj (gf Z Z Z Z Z Z (oj (gf Z Z Z Z Z Z (oj (gf Z Z Z Z Z Z (oj (Cl Z Z Z (oj (mv Z Z (oj (gf Z Z Z Z Z Z (oj (gf Z Z Z Z Z Z (oj (gf Z Z Z Z Z Z (oj (gf Z Z Z Z Z Z (oj (Cl Z Z Z ?_)))))))))))))))))))))))))))))))
   refine oj (mv Z Z (oj (gf Z Z Z Z Z Z (oj (gf Z Z Z Z Z Z (oj (gf Z Z Z Z Z Z (oj (gf Z Z Z Z Z Z (oj (Cl Z Z Z (oj (mv Z Z (oj (gf Z Z Z Z Z Z (oj (gf Z Z Z Z Z Z (oj (gf Z Z Z Z Z Z (oj (gf Z Z Z Z Z Z (oj (Cl Z Z Z (oj (mv Z Z (oj (gf Z Z Z Z Z Z (oj (gf Z Z Z Z Z Z (oj (gf Z Z Z Z Z Z ?_)))))))))))))))))))))))))))))))
   refine oj (gf Z Z Z Z Z Z (oj (Cl Z Z Z (on (qn (Ap Z (fun _=>(Ab (Aa (oj (Ak Z Z (on (qn (Af (qr ?_))))))))) (fun h=>by cases h)))))))
   have hb : ¬ CkP c:=fun hC=>by
    have:=hC.e0
    omega
   exact Ac (d:=2) (v:=iv (ckE c)) Z (by rw [Dy hb]) (As () Z (.tmp Z .nil) Z tR .slnil (fun w h=>tR) (.inl Z))
  ·refine oj (gt Z Z Z ((A2 (o':=1) Z Z Fj Ai Z (oj (gt Z Z Z ((A4 Z Z Ai (fun w h=>Bc.at1 h.1.1 Z) (oj (gt Z Z Z ((gti Z Z Z (oj (Df Z Z Z (oj (mv Z Z ?_)))))))))))))))
   refine B5 (d:=23) Z (fun h3=>?_) (fun h3=>?_)
   ·refine oj (gf Z Z Z Z Z Z (oj (gf Z Z Z Z Z Z (oj (gf Z Z Z Z Z Z (oj (gf Z Z Z Z Z Z (oj (Cl Z Z Z (oj (mv Z Z (oj (gf Z Z Z Z Z Z (oj (gf Z Z Z Z Z Z (oj (gf Z Z Z Z Z Z (oj (gf Z Z Z Z Z Z (oj (Cl Z Z Z (oj (mv Z Z (oj (gf Z Z Z Z Z Z (oj (gf Z Z Z Z Z Z (oj (gf Z Z Z Z Z Z (oj (gf Z Z Z Z Z Z ?_)))))))))))))))))))))))))))))))
    refine oj (Cl Z Z Z (oj (mv Z Z (oj (gf Z Z Z Z Z Z (oj (gf Z Z Z Z Z Z (oj (gf Z Z Z Z Z Z (oj (gf Z Z Z Z Z Z (oj (Cl Z Z Z (oj (mv Z Z (oj (gf Z Z Z Z Z Z (oj (gf Z Z Z Z Z Z (oj (gf Z Z Z Z Z Z (oj (gf Z Z Z Z Z Z (oj (Cl Z Z Z (on (qn (Ap Z (fun _=>?_) (fun h=>by cases h)))))))))))))))))))))))))))))
    refine Ab (Aa (oj (Ak Z Z (on (qn (Af (qr ?_)))))))
    have hb : ¬ CkP c:=fun hC=>by
     have:=hC.e1
     omega
    exact Ac (d:=2) (v:=iv (ckE c)) Z (by rw [Dy hb]) (As () Z (.tmp Z .nil) Z tR .slnil (fun w h=>tR) (.inl Z))
   ·refine oj (gt Z Z Z ((A2 (o':=34) Z Z H8 Ai Z (oj (gt Z Z Z ((A4 Z Z Ai (fun w h=>Bc.at1 h.1.1 Z) (oj (gt Z Z Z ((Ao Z Z (.cons Z .nil) fb_67 (J8 _)  (fun w h=>tR) Z (fun _=>(Ae (fun w h=>h.2) (oj (gt Z Z Z ((not Z Z (oj (Df Z Z Z (oj (mv Z Z ?_)))))))))))))))))))))
    refine Dn (d:=29) Z (fun h4=>?_) (fun h4=>?_)
    ·refine oj (gf Z Z Z Z Z Z (oj (gf Z Z Z Z Z Z (oj (gf Z Z Z Z Z Z (oj (gf Z Z Z Z Z Z (oj (Cl Z Z Z (oj (mv Z Z (oj (gf Z Z Z Z Z Z (oj (gf Z Z Z Z Z Z (oj (gf Z Z Z Z Z Z (oj (gf Z Z Z Z Z Z (oj (Cl Z Z Z (oj (mv Z Z (oj (gf Z Z Z Z Z Z (oj (gf Z Z Z Z Z Z (oj (gf Z Z Z Z Z Z (oj (gf Z Z Z Z Z Z ?_)))))))))))))))))))))))))))))))
     refine oj (Cl Z Z Z (oj (mv Z Z (oj (gf Z Z Z Z Z Z (oj (gf Z Z Z Z Z Z (oj (gf Z Z Z Z Z Z (oj (gf Z Z Z Z Z Z (oj (Cl Z Z Z (on (qn (Ap Z (fun _=>(Ab (Aa (oj (Ak Z Z (on (qn (Af ?_)))))))) (fun h=>by cases h)))))))))))))))))
     refine qr ?_
     have hb : ¬ CkP c:=fun hC=>by
      have:=Bu.1 hC.au
      simp at h4
      omega
     exact Ac (d:=2) (v:=iv (ckE c)) Z (by rw [Dy hb]) (As () Z (.tmp Z .nil) Z tR .slnil (fun w h=>tR) (.inl Z))
    ·refine oj (gt Z Z Z ((A2 (o':=35) Z Z Es Et Z (oj (gt Z Z Z ((A4 Z Z Et (fun w h=>Bc.at1 h.1.1 Z) (oj (gt Z Z Z ((Ao Z Z (.cons Z .nil) fb_68 (cformed_spec c.cA c.cC c.ch (by omega))  (fun w h=>⟨(h.2.1),tR⟩) Z (fun _=>(Ae (fun w h=>h.2) (oj (gt Z Z Z ((not Z Z (oj (Df Z Z Z (oj (mv Z Z ?_)))))))))))))))))))))
     refine Dn (d:=35) Z (fun h5=>?_) (fun h5=>?_)
     ·refine oj (gf Z Z Z Z Z Z (oj (gf Z Z Z Z Z Z (oj (gf Z Z Z Z Z Z (oj (gf Z Z Z Z Z Z (oj (Cl Z Z Z (oj (mv Z Z (oj (gf Z Z Z Z Z Z (oj (gf Z Z Z Z Z Z (oj (gf Z Z Z Z Z Z (oj (gf Z Z Z Z Z Z (oj (Cl Z Z Z (oj (mv Z Z (oj (gf Z Z Z Z Z Z (oj (gf Z Z Z Z Z Z (oj (gf Z Z Z Z Z Z (oj (gf Z Z Z Z Z Z ?_)))))))))))))))))))))))))))))))
      refine oj (Cl Z Z Z (on (qn (Ap Z (fun _=>(Ab (Aa (oj (Ak Z Z (on (qn (Af (qr ?_))))))))) (fun h=>by cases h)))))
      have hb : ¬ CkP c:=fun hC=>by
       have:=fmB_iff.2 hC.fm
       rw [this] at h5
       exact absurd h5 (by simp)
      exact Ac (d:=2) (v:=iv (ckE c)) Z (by rw [Dy hb]) (As () Z (.tmp Z .nil) Z tR .slnil (fun w h=>tR) (.inl Z))
     ·refine oj (gt Z Z Z ((A2 (o':=36) Z Z Gn Eg Z (oj (gt Z Z Z ((A4 Z Z Eg (fun w h=>Bc.at1 h.1.1 Z) (oj (gt Z Z Z ((Bn Z Z Tryz.underlying31 Z (oj (gt Z Z Z ((G2 Z Z Z (oj (Df Z Z Z (oj (mv Z Z ?_)))))))))))))))))))
      refine kj_ne (d:=41) Z (fun h6=>?_) (fun h6=>?_)
      ·refine oj (gf Z Z Z Z Z Z (oj (gf Z Z Z Z Z Z (oj (gf Z Z Z Z Z Z (oj (gf Z Z Z Z Z Z (oj (Cl Z Z Z (oj (mv Z Z (oj (gf Z Z Z Z Z Z (oj (gf Z Z Z Z Z Z (oj (gf Z Z Z Z Z Z (oj (gf Z Z Z Z Z Z (oj (Cl Z Z Z (on (qn (Ap Z (fun _=>(Ab (Aa ?_))) (fun h=>by cases h)))))))))))))))))))))))))
       refine oj (Ak Z Z (on (qn (Af (qr ?_)))))
       have hb : ¬ CkP c:=fun hC=>by
        have:=hC.pl
        omega
       exact Ac (d:=2) (v:=iv (ckE c)) Z (by rw [Dy hb]) (As () Z (.tmp Z .nil) Z tR .slnil (fun w h=>tR) (.inl Z))
      ·refine oj (gt Z Z Z ((A2 (o':=37) Z Z D7 Db Z (oj (gt Z Z Z ((A4 Z Z Db (fun w h=>Bc.at1 h.1.1 Z) (oj (gt Z Z Z ((Bn Z Z Tryz.underlying32 Z (oj (gt Z Z Z ((gti Z Z Z (oj (Df Z Z Z (oj (mv Z Z ?_)))))))))))))))))))
       refine B5 (d:=47) Z (fun h7=>?_) (fun h7=>?_)
       ·refine oj (gf Z Z Z Z Z Z (oj (gf Z Z Z Z Z Z (oj (gf Z Z Z Z Z Z (oj (gf Z Z Z Z Z Z (oj (Cl Z Z Z (on (qn (Ap Z (fun _=>(Ab (Aa (oj (Ak Z Z (on (qn (Af (qr ?_))))))))) (fun h=>by cases h)))))))))))))
        have hb : ¬ CkP c:=fun hC=>by
         have:=hC.bl
         omega
        exact Ac (d:=2) (v:=iv (ckE c)) Z (by rw [Dy hb]) (As () Z (.tmp Z .nil) Z tR .slnil (fun w h=>tR) (.inl Z))
       ·refine oj (gt Z Z Z ((A2 (o':=38) Z Z D2 D5 Z (oj (gt Z Z Z ((A4 Z Z D5 (fun w h=>Bc.at1 h.1.1 Z) (oj (gt Z Z Z ((Bn Z Z Tryz.underlying33 Z (oj (gt Z Z Z ((gti Z Z Z (oj (Df Z Z Z (on (qn ?_)))))))))))))))))))
        refine A8 Z (fun h8=>?_) (fun h8=>?_)
        ·refine Ab (Aa (oj (Ak Z Z (on (qn (Af (qr ?_)))))))
         have hb : ¬ CkP c:=fun hC=>by
          have:=hC.wl
          omega
         exact Ac (d:=2) (v:=iv (ckE c)) Z (by rw [Dy hb]) (As () Z (.tmp Z .nil) Z tR .slnil (fun w h=>tR) (.inl Z))
        ·refine Ah (qn (Ab (Ab (Aa (oj (A2 (o':=36) Z Z Gn Eg Z (oj (A4 Z Z Eg (fun w h=>Bc.at1 h.1.1 Z) (oj (Bn Z Z Tryz.underlying31 Z (oj (mv Z Z (on (qn (Ag (Aw (fun (sT:(Nat))=>(⟨sT≤c.path.length∧∀ p∈c.path.take sT,el p=true,[(1,Bg r1 0),(54,.slice c.pA c.path.length c.pC),(55,iv c.path.length),(56,iv (sT:Int))],[],fun w=>CF1 c w∧CF2 c w∧CF3 c w∧CF5 c w∧Bc r1 c.segs 37 w∧True,c.path.length-sT⟩:Hd)) (0) (⟨Nat.zero_le _,by simp⟩) (⟨Z,Z,Z,Z,tR⟩) .slnil (fun w h=>⟨(h.2.1),(h.2.2.1),(Cu h),(Dw h),(h.1.1),tR⟩) ?_))))))))))))))))
         rintro i ⟨hi,hI⟩
         try dsimp only
         refine Ab (Aa (oj (Dd Z Z Z (on (qn (Ab ?_))))))
         refine A8 Z (fun ht=>?_) (fun hf=>?_)
         ·obtain ⟨x,hx⟩:∃ x,c.path[i]? = some x:=⟨_,List.getElem?_eq_getElem (by omega)⟩
          refine Ah (qn (Ab (Ag (Ab (Aa (oj (Fc Z Z Z Tryz.underlying31 Ai (by omega) (fun w h=>Sl.some (h.2.1) (by omega)) (oj (A4 Z Z Ai (fun w h=>Sl.elem1 (h.2.1) (Dh hx)) (oj (Ak Z Z (on (qn (Ab (Aa (oj (mv Z Z (oj (Ao Z Z (.cons Z .nil) J2 (Dq _)  (fun w h=>tR) Z (fun _=>(Ae (fun w h=>h.2) ?_)))))))))))))))))))))
          refine oj (G2 Z Z Z (on (qn ?_)))
          refine C5 Z (fun g1=>?_) (fun g1=>?_)
          ·refine Ab (Aa (oj (Ak Z Z (on (qn (Af (br (qr (qr (br (qr ?_)))))))))))
           have hb : ¬ CkP c:=fun hC=>by
            exact g1 (Ed.2 (hC.pe x (List.mem_of_getElem? hx)))
           exact Ac (d:=2) (v:=iv (ckE c)) Z (by rw [Dy hb]) (As () Z (.tmp Z .nil) Z tR .slnil (fun w h=>tR) (.inl Z))
          ·refine Ah (bn (qn (Aa (oj (add Z Z Z (by omega) (oj (mv Z Z (on (qn ?_)))))))))
           exact Ar (i+1) (by dsimp only; omega) (⟨by (try dsimp only); omega,fun y hy=>by
             rw [A7 hx] at hy
             rcases List.mem_append.1 hy with hy | hy
             ·exact hI y hy
             ·rw [List.mem_singleton.1 hy]; exact Ed.1 (by simpa using g1)⟩) (⟨rfl,rfl,rfl,rfl,trivial⟩) .slnil (fun w h=>⟨(h.1),(h.2.1),(h.2.2.1),(Cu h),(Dw h),trivial⟩)
         ·have h4:i=c.path.length:=by omega
          subst h4
          rw [List.take_length] at hI
          have hP:=hI
          clear hI
          refine A1 (qe (qe (be (qn (Ab (Ab (Aa (oj (A2 (o':=37) Z Z D7 Db Z (oj (A4 Z Z Db (fun w h=>Bc.at1 (Dw h) Z) (oj (Bn Z Z Tryz.underlying32 Z (oj (mv Z Z (on (qn (Ag (Aw (fun (sT:(Nat))=>(⟨sT≤c.bx.length∧∀ p∈c.bx.take sT,bxB p=true,[(1,Bg r1 0),(65,.slice c.bA c.bx.length c.bC),(66,iv c.bx.length),(67,iv (sT:Int))],[],fun w=>CF1 c w∧CF2 c w∧CF3 c w∧CF5 c w∧Bc r1 c.segs 37 w∧True,c.bx.length-sT⟩:Hd)) (0) (⟨Nat.zero_le _,by simp⟩) (⟨Z,Z,Z,Z,tR⟩) .slnil (fun w h=>⟨(h.1),(h.2.1),(h.2.2.1),(Cu h),(Dw h),tR⟩) ?_)))))))))))))))))))
          rintro i ⟨hi,hI⟩
          try dsimp only
          refine Ab (Aa (oj (Dd Z Z Z (on (qn (Ab ?_))))))
          refine A8 Z (fun ht=>?_) (fun hf=>?_)
          ·obtain ⟨x,hx⟩:∃ x,c.bx[i]? = some x:=⟨_,List.getElem?_eq_getElem (by omega)⟩
           refine Ah (qn (Ab (Ag (Ab (Aa (oj (Fc Z Z Z Tryz.underlying32 E1 (by omega) (fun w h=>Sl.some (h.2.2.1) (by omega)) (oj (D4 Z Z E1 Z (fun w h=>Cv (h.2.2.1) (by decide) (fun _=>Z) hx) (Ac (d:=70) (v:=av [S1 (iv x.n),S1 (iv x.lv),Fr 2 [iv x.u,.slice x.a x.b.length x.c]]) Z Z (oj (C7 Z I9 (fun r6=>(oj (C0 Z Z E1 Z Z .head (on (qn (Ab (Aa (oj (A2 (o':=0) Z Z Hc Ai Z ?_)))))))))))))))))))))
           refine oj (Bh Z Z Ai (.head _) (Z) (oj (Dd Z Z Z (oj (mv Z Z ?_)))))
           refine B5 (d:=74) Z (fun q1=>?_) (fun q1=>?_)
           ·refine oj (gf Z Z Z Z Z Z (oj (gf Z Z Z Z Z Z (oj (gf Z Z Z Z Z Z (oj (Cl Z Z Z (oj (mv Z Z (oj (gf Z Z Z Z Z Z (oj (gf Z Z Z Z Z Z (oj (gf Z Z Z Z Z Z (oj (Cl Z Z Z (oj (mv Z Z (oj (gf Z Z Z Z Z Z (oj (gf Z Z Z Z Z Z (oj (gf Z Z Z Z Z Z (oj (Cl Z Z Z (oj (mv Z Z (oj (gf Z Z Z Z Z Z ?_)))))))))))))))))))))))))))))))
            refine oj (gf Z Z Z Z Z Z (oj (gf Z Z Z Z Z Z (oj (gf Z Z Z Z Z Z (oj (Cl Z Z Z (on (qn (Ap Z (fun _=>(Ab (Aa (oj (Ak Z Z (on (qn (Af (br (qr (qr ?_))))))))))) (fun h=>by cases h)))))))))))
            refine br (qr ?_)
            have hb : ¬ CkP c:=fun hC=>by
             have hq:=hC.be x (List.mem_of_getElem? hx)
             simp [bxB] at hq
             omega
            exact Ac (d:=2) (v:=iv (ckE c)) Z (by rw [Dy hb]) (As () Z (.tmp Z .nil) Z tR (Bl _) (fun w h=>tR) (.inl Z))
           ·refine oj (gt Z Z Z ((A2 (o':=0) Z Z Hc Ai Z (oj (gt Z Z Z ((Bh Z Z Ai (.head _) (Z) (oj (gt Z Z Z ((gei Z Z Z (oj (Df Z Z Z (oj (mv Z Z ?_)))))))))))))))
            refine B5 (d:=79) Z (fun q2=>?_) (fun q2=>?_)
            ·refine oj (gf Z Z Z Z Z Z (oj (gf Z Z Z Z Z Z (oj (gf Z Z Z Z Z Z (oj (Cl Z Z Z (oj (mv Z Z (oj (gf Z Z Z Z Z Z (oj (gf Z Z Z Z Z Z (oj (gf Z Z Z Z Z Z (oj (Cl Z Z Z (oj (mv Z Z (oj (gf Z Z Z Z Z Z (oj (gf Z Z Z Z Z Z (oj (gf Z Z Z Z Z Z (oj (gf Z Z Z Z Z Z (oj (Cl Z Z Z (on ?_))))))))))))))))))))))))))))))
             refine qn (Ap Z (fun _=>(Ab (Aa (oj (Ak Z Z (on (qn (Af (br (qr (qr (br (qr ?_))))))))))))) (fun h=>by cases h))
             have hb : ¬ CkP c:=fun hC=>by
              have hq:=hC.be x (List.mem_of_getElem? hx)
              simp [bxB] at hq
              omega
             exact Ac (d:=2) (v:=iv (ckE c)) Z (by rw [Dy hb]) (As () Z (.tmp Z .nil) Z tR (Bl _) (fun w h=>tR) (.inl Z))
            ·refine oj (gt Z Z Z ((A2 (o':=1) Z Z Hb Ai Z (oj (gt Z Z Z ((Bh Z Z Ai (.head _) (Z) (oj (gt Z Z Z ((Dd Z Z Z (oj (Df Z Z Z (oj (mv Z Z ?_)))))))))))))))
             refine B5 (d:=84) Z (fun q3=>?_) (fun q3=>?_)
             ·refine oj (gf Z Z Z Z Z Z (oj (gf Z Z Z Z Z Z (oj (gf Z Z Z Z Z Z (oj (Cl Z Z Z (oj (mv Z Z (oj (gf Z Z Z Z Z Z (oj (gf Z Z Z Z Z Z (oj (gf Z Z Z Z Z Z (oj (gf Z Z Z Z Z Z (oj (Cl Z Z Z (on (qn (Ap Z (fun _=>(Ab (Aa (oj (Ak Z Z ?_))))) (fun h=>by cases h)))))))))))))))))))))))
              refine on (qn (Af (br (qr (qr (br (qr ?_)))))))
              have hb : ¬ CkP c:=fun hC=>by
               have hq:=hC.be x (List.mem_of_getElem? hx)
               simp [bxB] at hq
               omega
              exact Ac (d:=2) (v:=iv (ckE c)) Z (by rw [Dy hb]) (As () Z (.tmp Z .nil) Z tR (Bl _) (fun w h=>tR) (.inl Z))
             ·refine oj (gt Z Z Z ((A2 (o':=1) Z Z Hb Ai Z (oj (gt Z Z Z ((Bh Z Z Ai (.head _) (Z) (oj (gt Z Z Z ((gti Z Z Z (oj (Df Z Z Z (oj (mv Z Z ?_)))))))))))))))
              refine B5 (d:=89) Z (fun q4=>?_) (fun q4=>?_)
              ·refine oj (gf Z Z Z Z Z Z (oj (gf Z Z Z Z Z Z (oj (gf Z Z Z Z Z Z (oj (gf Z Z Z Z Z Z (oj (Cl Z Z Z (on (qn (Ap Z (fun _=>(Ab (Aa (oj (Ak Z Z (on (qn (Af (br (qr ?_)))))))))) (fun h=>by cases h)))))))))))))
               refine qr (br (qr ?_))
               have hb : ¬ CkP c:=fun hC=>by
                have hq:=hC.be x (List.mem_of_getElem? hx)
                simp [bxB] at hq
                omega
               exact Ac (d:=2) (v:=iv (ckE c)) Z (by rw [Dy hb]) (As () Z (.tmp Z .nil) Z tR (Bl _) (fun w h=>tR) (.inl Z))
              ·refine oj (gt Z Z Z ((A2 (o':=2) Z Z Fi Ct Z (oj (gt Z Z Z ((Js Z Z Ct (.head _) Z Z (Ac (d:=91) (v:=av [S1 (iv x.u),S1 (.slice x.a x.b.length x.c)]) Z (by rfl) (oj (gt Z Z Z ((Ao Z Z (.cons Z .nil) fb_70 (wcheck_spec x.u x.a x.b.length x.c (Nat.le_trans (hbl x (List.mem_of_getElem? hx)) (by decide)))  (fun w h=>tR) Z (fun _=>(Ae (fun w h=>h.2) (oj (gt Z Z Z ((G2 Z Z Z (oj (Df Z Z Z (on (qn ?_))))))))))))))))))))))
               refine C5 Z (fun q5=>?_) (fun q5=>?_)
               ·refine Ab (Aa (oj (Ak Z Z (on (qn (Af (br (qr (qr (br (qr ?_)))))))))))
                have hb : ¬ CkP c:=fun hC=>by
                 have hq:=hC.be x (List.mem_of_getElem? hx)
                 simp [bxB] at hq
                 exact q5 (Kb.2 hq.2)
                exact Ac (d:=2) (v:=iv (ckE c)) Z (by rw [Dy hb]) (As () Z (.tmp Z .nil) Z tR (Bl _) (fun w h=>tR) (.inl Z))
               ·refine Ah (bn (qn (Aa (oj (add Z Z Z (by omega) (oj (mv Z Z (on (qn ?_)))))))))
                exact Ar (i+1) (by dsimp only; omega) (⟨by (try dsimp only); omega,fun y hy=>by
                  rw [A7 hx] at hy
                  rcases List.mem_append.1 hy with hy | hy
                  ·exact hI y hy
                  ·rw [List.mem_singleton.1 hy]; exact by unfold bxB; rw [Kb.1 (by simpa using q5)]; simp; omega⟩) (⟨rfl,rfl,rfl,rfl,trivial⟩) (Bl _) (fun w h=>⟨(h.1),(h.2.1),(h.2.2.1),(Cu h),(Dw h),trivial⟩)
          ·have h4:i=c.bx.length:=by omega
           subst h4
           rw [List.take_length] at hI
           have hB:=hI
           clear hI
           refine A1 (qe (qe (be (qn (Ab (Ab (Aa (oj (A2 (o':=38) Z Z D2 D5 Z (oj (A4 Z Z D5 (fun w h=>Bc.at1 (Dw h) Z) (oj (Bn Z Z Tryz.underlying33 Z (oj (mv Z Z (on (qn (Ag (Aw (fun (sT:(Nat))=>(⟨sT≤c.wl.length∧∀ j,j < sT→WlOk c.wl j,[(1,Bg r1 0),(97,.slice c.wA c.wl.length c.wC),(98,iv c.wl.length),(99,iv (sT:Int))],[],fun w=>CF1 c w∧CF2 c w∧CF3 c w∧CF5 c w∧Bc r1 c.segs 37 w∧True,c.wl.length-sT⟩:Hd)) (0) (⟨Nat.zero_le _,fun j h=>absurd h (Nat.not_lt_zero _)⟩) (⟨Z,Z,Z,Z,tR⟩) .slnil (fun w h=>⟨(h.1),(h.2.1),(h.2.2.1),(Cu h),(Dw h),tR⟩) ?_)))))))))))))))))))
           rintro i ⟨hi,hI⟩
           try dsimp only
           refine Ab (Aa (oj (Dd Z Z Z (on (qn (Ab ?_))))))
           refine A8 Z (fun ht=>?_) (fun hf=>?_)
           ·obtain ⟨x,hx⟩:∃ x,c.wl[i]? = some x:=⟨_,List.getElem?_eq_getElem (by omega)⟩
            refine Ah (qn (Ab (Ag (Ab (Aa (oj (mv Z Z (oj (Fc Z Z Z Tryz.underlying33 Gk (by omega) (fun w h=>Sl.some (Cu h) (by omega)) (oj (D4 Z Z Gk Z (fun w h=>Cv (Cu h) (by decide) (fun _=>Z) hx) (Ac (d:=103) (v:=av [S1 (iv x.d),Fr 2 [iv x.u,.slice x.a x.b.length x.c]]) Z Z (oj (C7 Z zok_87 (fun r8=>(oj (Ak Z Z (oj (C0 Z Z Gk Z Z .head (on (qn (Ab ?_))))))))))))))))))))))
            refine A5 mo (Ad 0 ((A2 (o':=0) Z Z Ki Ai Z (Ad 1 ((Bh Z Z Ai (.head _) (Z) (Ad 2 ((Ao Z Z (.cons Z .nil) fb_67 (J8 _)  (fun w h=>tR) Z (fun _=>(Ae (fun w h=>h.2) (Ad 3 ((not Z Z (Ad 4 ((mv Z Z ?_)))))))))))))))))
            refine Dn (d:=108) Z (fun w1=>?_) (fun w1=>?_)
            ·refine Ad 5 ((gf Z Z Z Z Z Z (Ad 6 ((gf Z Z Z Z Z Z (Ad 7 ((gf Z Z Z Z Z Z (A3 [8,9,10,11,12,13,14,15,16] (fun _=>false) (by kernel_rfl) Z Z (.det _ (fun Q K R m k=>(Gl Z Z Z Z Z k)) (.det _ (fun Q K R m k=>(Gl Z Z Z Z Z k)) (.det _ (fun Q K R m k=>(Gl Z Z Z Z Z k)) (.det _ (fun Q K R m k=>(Gl Z Z Z Z Z k)) (.det _ (fun Q K R m k=>(Gl Z Z Z Z Z k)) (.det _ (fun Q K R m k=>(Gl Z Z Z Z Z k)) (.det _ (fun Q K R m k=>(Gl Z Z Z Z Z k)) (.det _ (fun Q K R m k=>(Gl Z Z Z Z Z k)) (.det _ (fun Q K R m k=>(Gl Z Z Z Z Z k)) ?_))))))))))))))))))
             refine .nil (Ad 17 ((Gl Z Z Z Z Z (Ad 18 ((gf Z Z Z Z Z Z (Ad 19 ((Cl Z Z Z (Ad 20 ((mv Z Z (Ad 21 ((gf Z Z Z Z Z Z (Ad 22 ((gf Z Z Z Z Z Z (Ad 23 ((gf Z Z Z Z Z Z (Ad 24 ?_))))))))))))))))))))))
             refine (gf Z Z Z Z Z Z (Ad 25 ((Cl Z Z Z (A6 (qn (Ap Z (fun _=>(Ab (Aa (oj (Ak Z Z (on (qn (Af (br (qr (qr (br ?_)))))))))))) (fun h=>by cases h))))))))
             refine qr ?_
             have hb : ¬ CkP c:=fun hC=>by
              obtain ⟨y,hy,k1,k2,k3⟩:=hC.we i (by omega)
              rw [hx] at hy
              cases hy
              have:=Bu.1 k1
              simp at w1
              omega
             exact Ac (d:=2) (v:=iv (ckE c)) Z (by rw [Dy hb]) (As () Z (.tmp Z .nil) Z tR (Bl _) (fun w h=>tR) (.inl Z))
            ·refine Ad 5 ((gt Z Z Z (mv Z Z (Ad 6 ((gt Z Z Z (gti Z Z Z (Ad 7 ((gt Z Z Z (mv Z Z ?_)))))))))))
             refine B5 (d:=111) Z (fun w2=>?_) (fun w2=>?_)
             ·obtain ⟨pp,hpp⟩:∃ x,c.wl[i-1]? = some x:=⟨_,List.getElem?_eq_getElem (by omega)⟩
              refine A3 [8,9,10,11,12,13,14,15,16] (fun _=>false) (by kernel_rfl) Z Z (.det _ (fun Q K R m k=>(gt Z Z Z (A2 (o':=38) Z Z D2 D5 Z k))) (.det _ (fun Q K R m k=>(gt Z Z Z (A4 Z Z D5 (fun w h=>Bc.at1 (Dw h.1) Z) k))) (.det _ (fun Q K R m k=>(gt Z Z Z (mv Z Z k))) (.det (iv ((i-1:Nat):Int)) (fun Q K R m k=>(gt Z Z Z (sub Z Z Z (by omega) (B8 (by congr 1; omega) k)))) (.det _ (fun Q K R m k=>(gt Z Z Z (Fc Z Z Z Tryz.underlying33 Gk (by omega) (fun w h=>Sl.some (Cu h.1) (by omega)) k))) (.det _ (fun Q K R m k=>(gt Z Z Z (fadO Z Z Ki Ai (fun w h=>by obtain ⟨b,hb⟩:=Sl.some (Cu h.1) (by omega); exact ⟨_,by rw [hb]; rfl⟩) k))) (.det _ (fun Q K R m k=>(gt Z Z Z (A4 Z Z Ai (fun w h=>(Cv (Cu h.1) (by decide) (fun _=>Z) hpp).fld Z) k))) (.det _ (fun Q K R m k=>(gt Z Z Z (A2 (o':=0) Z Z Ki Ai Z k))) (.det _ (fun Q K R m k=>(gt Z Z Z (Bh Z Z Ai (.head _) (Z) k))) (.nil (Ad 17 ((gt Z Z Z (gei Z Z Z (Ad 18 ((gt Z Z Z (Cl Z Z Z (Ad 19 ?_)))))))))))))))))))
              refine (Df Z Z Z (Ad 20 ((mv Z Z ?_))))
              refine B5 (d:=124) Z (fun w3=>?_) (fun w3=>?_)
              ·refine Ad 21 ((gf Z Z Z Z Z Z (Ad 22 ((gf Z Z Z Z Z Z (Ad 23 ((gf Z Z Z Z Z Z (Ad 24 ((gf Z Z Z Z Z Z (Ad 25 ((Cl Z Z Z (A6 (qn (Ap Z (fun _=>(Ab (Aa (oj (Ak Z Z ?_))))) (fun h=>by cases h))))))))))))))))))
               refine on (qn (Af (br (qr (qr (br (qr ?_)))))))
               have hb : ¬ CkP c:=fun hC=>by
                obtain ⟨y,hy,k1,k2,k3⟩:=hC.we i (by omega)
                rw [hx] at hy
                cases hy
                have:=k3 pp (by omega) hpp
                omega
               exact Ac (d:=2) (v:=iv (ckE c)) Z (by rw [Dy hb]) (As () Z (.tmp Z .nil) Z tR (Bl _) (fun w h=>tR) (.inl Z))
              ·refine Ad 21 ((gt Z Z Z (A2 (o':=1) Z Z E4 Ct Z (Ad 22 ((gt Z Z Z (Js Z Z Ct (.head _) Z Z (Ac (d:=126) (v:=av [S1 (iv x.u),S1 (.slice x.a x.b.length x.c)]) Z (by rfl) (Ad 23 ((gt Z Z Z (Ao Z Z (.cons Z .nil) fb_70 (wcheck_spec x.u x.a x.b.length x.c (Nat.le_trans (hwl x (List.mem_of_getElem? hx)) (by decide)))  (fun w h=>tR) Z (fun _=>(Ae (fun w h=>h.2) (Ad 24 ((gt Z Z Z (G2 Z Z Z (Ad 25 ((Df Z Z Z (A6 (qn ?_)))))))))))))))))))))))
               refine C5 Z (fun w4=>?_) (fun w4=>?_)
               ·refine Ab (Aa (oj (Ak Z Z (on (qn (Af (br (qr (qr (br (qr ?_)))))))))))
                have hb : ¬ CkP c:=fun hC=>by
                 obtain ⟨y,hy,k1,k2,k3⟩:=hC.we i (by omega)
                 rw [hx] at hy
                 cases hy
                 exact w4 (Kb.2 k2)
                exact Ac (d:=2) (v:=iv (ckE c)) Z (by rw [Dy hb]) (As () Z (.tmp Z .nil) Z tR (Bl _) (fun w h=>tR) (.inl Z))
               ·refine Ah (bn (qn (Aa (oj (add Z Z Z (by omega) (oj (mv Z Z (on (qn ?_)))))))))
                exact Ar (i+1) (by dsimp only; omega) (⟨by (try dsimp only); omega,fun j hj=>by
                  by_cases hji:j < i
                  ·exact hI j hji
                  ·have:j=i:=by (try dsimp only at hj); omega
                   subst this
                   exact ⟨x,hx,by unfold Eo; simpa using w1,Kb.1 (by simpa using w4),fun p _ hp=>by rw [hpp] at hp; cases hp; omega⟩⟩) (⟨Z,Z,Z,Z,tR⟩) (Bl _) (fun w h=>⟨(h.1),(h.2.1),(h.2.2.1),(Cu h),(Dw h),tR⟩)
             ·refine A3 [8,9,10,11,12,13,14,15,16] (fun _=>false) (by kernel_rfl) Z Z (.det _ (fun Q K R m k=>(gf Z Z Z Z Z Z k)) (.det _ (fun Q K R m k=>(gf Z Z Z Z Z Z k)) (.det _ (fun Q K R m k=>(gf Z Z Z Z Z Z k)) (.det _ (fun Q K R m k=>(gf Z Z Z Z Z Z k)) (.det _ (fun Q K R m k=>(gf Z Z Z Z Z Z k)) (.det _ (fun Q K R m k=>(gf Z Z Z Z Z Z k)) (.det _ (fun Q K R m k=>(gf Z Z Z Z Z Z k)) (.det _ (fun Q K R m k=>(gf Z Z Z Z Z Z k)) (.det _ (fun Q K R m k=>(gf Z Z Z Z Z Z k)) (.nil (Ad 17 ((gf Z Z Z Z Z Z (Ad 18 ((gt Z Z Z (Df Z Z Z (Ad 19 ?_))))))))))))))))))
              refine (Df Z Z Z (Ad 20 ((mv Z Z (Ad 21 ((gt Z Z Z (A2 (o':=1) Z Z E4 Ct Z (Ad 22 ((gt Z Z Z (Js Z Z Ct (.head _) Z Z (Ac (d:=126) (v:=av [S1 (iv x.u),S1 (.slice x.a x.b.length x.c)]) Z (by rfl) (Ad 23 ((gt Z Z Z (Ao Z Z (.cons Z .nil) fb_70 (wcheck_spec x.u x.a x.b.length x.c (Nat.le_trans (hwl x (List.mem_of_getElem? hx)) (by decide)))  (fun w h=>tR) Z (fun _=>(Ae (fun w h=>h.2) (Ad 24 ((gt Z Z Z (G2 Z Z Z (Ad 25 ((Df Z Z Z (A6 ?_)))))))))))))))))))))))))))
              refine qn ?_
              refine C5 Z (fun w4=>?_) (fun w4=>?_)
              ·refine Ab (Aa (oj (Ak Z Z (on (qn (Af (br (qr (qr (br (qr ?_)))))))))))
               have hb : ¬ CkP c:=fun hC=>by
                obtain ⟨y,hy,k1,k2,k3⟩:=hC.we i (by omega)
                rw [hx] at hy
                cases hy
                exact w4 (Kb.2 k2)
               exact Ac (d:=2) (v:=iv (ckE c)) Z (by rw [Dy hb]) (As () Z (.tmp Z .nil) Z tR (Bl _) (fun w h=>tR) (.inl Z))
              ·refine Ah (bn (qn (Aa (oj (add Z Z Z (by omega) (oj (mv Z Z (on (qn ?_)))))))))
               exact Ar (i+1) (by dsimp only; omega) (⟨by (try dsimp only); omega,fun j hj=>by
                 by_cases hji:j < i
                 ·exact hI j hji
                 ·have:j=i:=by (try dsimp only at hj); omega
                  subst this
                  exact ⟨x,hx,by unfold Eo; simpa using w1,Kb.1 (by simpa using w4),fun p h0 _=>absurd h0 (by omega)⟩⟩) (⟨Z,Z,Z,Z,tR⟩) (Bl _) (fun w h=>⟨(h.1),(h.2.1),(h.2.2.1),(Cu h),(Dw h),tR⟩)
           ·have h4:i=c.wl.length:=by omega
            subst h4
            refine A1 (qe (qe (be (qn (Ab (Aa (oj (Ak Z Z (on (qn (Af ?_)))))))))))
            have hC:CkP c:=⟨by simp at h1; omega,by simp at h1; omega,by omega,by omega,by unfold Eo; simpa using h4,fmB_iff.1 (by simpa using h5),by omega,by omega,by omega,hP,hB,hI⟩
            exact Ac (d:=2) (v:=iv (ckE c)) Z (by rw [ckE_ok hC]) (As () Z (.tmp Z .nil) Z tR .slnil (fun w h=>tR) (.inl Z))
theorem ndL_len (l:List (Int × Int)) (d:Int):(ndL l d).length≤131072:=by
 unfold ndL
 have h:∀ zs:List (Int × Nat),(zs.flatMap (ndB l)).length≤zs.length*2048:=by
  intro zs
  induction zs with
  | nil=>simp
  | cons z zs ih =>
   have h1:=rvL_len l z.1
   rw [List.flatMap_cons,List.length_append,List.length_cons,Nat.succ_mul]
   have h2:(ndB l z).length=(rvL l z.1).length:=by unfold ndB; rw [List.length_map]
   omega
 have h1:=h (Dz d Ff).zipIdx
 have h2:=alL_len d Ff
 rw [List.length_zipIdx] at h1
 omega
def nbx (q:Int × Int):Bxx:=⟨q.2,q.1,0,[],none,0⟩
open Classical in
noncomputable def ndE (g:Gp) (author:Int) (xs:List Chg):Int:=if Kt g then (if FmP xs∧psB g author xs=true then 0 else 221) else 1
open Classical in
noncomputable def Hw (g:Gp) (author:Int) (xs:List Chg):List Bxx:=if Kt g∧FmP xs∧psB g author xs=true then (ndL (Hh g.tr.l xs) author).map nbx else []
theorem nd_1 {g:Gp} {author:Int} {xs:List Chg} (h:vlB g=false):ndE g author xs=1∧Hw g author xs=[]:=by
 have hn : ¬ Kt g:=fun h2=>by rw [vlB_t h2] at h; cases h
 exact ⟨by unfold ndE; rw [if_neg hn],by unfold Hw; rw [if_neg (fun h2=>hn h2.1)]⟩
theorem vlB_iff {g:Gp}:vlB g=true↔Kt g:=by
 by_cases h:Kt g
 ·simp [vlB_t h,h]
 ·simp [vlB_f h,h]
theorem nd_2 {g:Gp} {author:Int} {xs:List Chg} (h:Kt g) (h2 : ¬ (fmB xs=true∧psB g author xs=true)):ndE g author xs=221∧Hw g author xs=[]:=by
 rw [fmB_iff] at h2
 exact ⟨by unfold ndE; rw [if_pos h,if_neg h2],by unfold Hw; rw [if_neg (fun h3=>h2 h3.2)]⟩
theorem nd_3 {g:Gp} {author:Int} {xs:List Chg} (h:Kt g) (h2:FmP xs) (h3:psB g author xs=true):ndE g author xs=0∧Hw g author xs=(ndL (Hh g.tr.l xs) author).map nbx:=by
 exact ⟨by unfold ndE; rw [if_pos h,if_pos ⟨h2,h3⟩],by unfold Hw; rw [if_pos ⟨h,h2,h3⟩]⟩
theorem FmP.el {xs:List Chg} (h:FmP xs):∀ x∈xs,x.k≠2→el x.p=true:=fun x hx hk=>by
 have:=(h.1 x hx).1
 unfold okB kyB at this
 split at this
 ·simp_all
 ·(try rw [if_neg hk] at this)
  split at this
  ·simp_all
  ·cases this
theorem ndR_len (g:Gp) (author:Int) (xs:List Chg):(Hw g author xs).length≤131072:=by
 unfold Hw
 split
 ·rw [List.length_map]; exact ndL_len _ _
 ·simp
theorem Iy (g:Gp) (author:Int) (a:Option Addr) (cap:Nat) (ls:List Chg) (hl:g.ms.length≤1000000) (htl:g.tr.l.length≤1000) (htc:g.tr.l.length≤g.tr.c) (hxl:ls.length≤1000):Ay Tryz.prog 37 [av g.segs,iv author,.slice a ls.length cap] [] (fun w=>GF1 g w∧g.tr.F w∧Sl 5 ls.length (ls.flatMap Chg.cells) (.slice a ls.length cap) w∧True) (fun x:Option Addr × Nat=>⟨(Hw g author ls).length≤x.2,.tuple #[.slice x.1 (Hw g author ls).length x.2,iv (ndE g author ls)],[],fun w=>Sl 4 (Hw g author ls).length ((Hw g author ls).flatMap Bxx.cells) (.slice x.1 (Hw g author ls).length x.2) w∧True⟩):=by
 refine Dv Tryz.func37 Z Z fun X w0=>(Cx (Ab (Aa (oj (C6 Z Z (fun r3=>(Al (Am 0 _ _ Z) ?_)))))))
 try dsimp only [List.eraseIdx]
 refine oj (C7 Z zok_32 (fun r6=>(oj (Ak Z Z (on (qn (Ab (Ab (Aa (oj (Bx Z Z B4 (fun w h=>h.1.1) Z (oj (Ao Z Z (.cons Z .nil) fb_44 (valid_spec g hl (by omega))  (fun w h=>⟨(h.2.1),(h.2.2.1),tR⟩) Z (fun _=>(Ae (fun w h=>h.2) (oj (not Z Z (on (qn ?_)))))))))))))))))))
 refine Ap Z (fun h1=>?_) (fun h1=>?_)
 ·refine Ab (Aa (oj (Cr Z Z Db Z .head (.head Z) Z (oj (Ak Z Z (on (qn (Af (qr ?_)))))))))
  have hz:=nd_1 (author:=author) (xs:=ls) (show vlB g=false by simpa using h1)
  refine retM (ds:=[]) (none,0) Z (.refl _) Z (.cell1 Z Db (.head _) Z (.tmp Z .nil)) (by rw [hz.2,hz.1]; rfl) (by rw [hz.2]; exact Nat.le_refl _) (Bl _) (fun w h=>(by rw [hz.2]; exact ⟨Be,trivial⟩)) (.inl Z)
 ·have hv:=vlB_iff.1 (show vlB g=true by simpa using h1)
  refine Ah (qn (Ab (Ab (Aa (oj (mv Z Z (oj (Ao Z Z (.cons Z .nil) fb_68 (cformed_spec a cap ls (by omega))  (fun w h=>⟨(Cu h),tR⟩) Z (fun _=>(Ae (fun w h=>h.2) (oj (not Z Z (oj (mv Z Z ?_))))))))))))))
  refine Dn (d:=16) Z (fun h2=>?_) (fun h2=>?_)
  ·refine oj (gf Z Z Z Z Z Z (oj (gf Z Z Z Z Z Z (oj (gf Z Z Z Z Z Z (oj (gf Z Z Z Z Z Z (oj (gf Z Z Z Z Z Z (oj (Cl Z Z Z (on (qn (Ap Z (fun _=>(Ab (Aa (oj (Cr Z Z Db Z .head (.head Z) Z (oj (Ak Z Z (on (qn (Af ?_)))))))))) (fun h=>by cases h)))))))))))))))
   refine qr ?_
   have hz:=nd_2 (author:=author) (xs:=ls) hv (by simp at h2; simp [h2])
   refine retM (ds:=[]) (none,0) Z (.refl _) Z (.cell1 Z Db (.head _) Z (.tmp Z .nil)) (by rw [hz.2,hz.1]; rfl) (by rw [hz.2]; exact Nat.le_refl _) (Bl _) (fun w h=>(by rw [hz.2]; exact ⟨Be,trivial⟩)) (.inl Z)
  ·refine oj (gt Z Z Z ((Bx Z Z B4 (fun w h=>h.1.1) Z (oj (gt Z Z Z ((mv Z Z (oj (gt Z Z Z ((mv Z Z (oj (gt Z Z Z ((Ao Z Z (.cons Z (.cons Z (.cons Z .nil))) fb_108 (possible_spec g hv.ms hl author a cap ls (by omega))  (fun w h=>⟨(h.2.1),(Cu h),tR⟩) Z (fun _=>(Ae (fun w h=>h.2) (oj (gt Z Z Z ((not Z Z (oj (Df Z Z Z (on (qn ?_)))))))))))))))))))))))))
   refine Ap Z (fun h3=>?_) (fun h3=>?_)
   ·refine Ab (Aa (oj (Cr Z Z Db Z .head (.head Z) Z (oj (Ak Z Z (on (qn (Af (qr ?_)))))))))
    have hz:=nd_2 (author:=author) (xs:=ls) hv (by simp at h3; simp [h3])
    refine retM (ds:=[]) (none,0) Z (.refl _) Z (.cell1 Z Db (.head _) Z (.tmp Z .nil)) (by rw [hz.2,hz.1]; rfl) (by rw [hz.2]; exact Nat.le_refl _) (Bl _) (fun w h=>(by rw [hz.2]; exact ⟨Be,trivial⟩)) (.inl Z)
   ·have hf:=fmB_iff.1 (show fmB ls=true by simpa using h2)
    have hz:=nd_3 hv hf (show psB g author ls=true by simpa using h3)
    refine Ah (qn (Ab (Ab (Aa (oj (Bx Z Z B4 (fun w h=>h.1.1) Z (oj (mv Z Z (oj (call Z Z (.cons Z (.cons Z .nil)) fb_54 (renewed_spec g htc a cap ls (by omega) hf.el)  (fun w h=>⟨(h.2.2.1),(Cu h),tR⟩) ?_))))))))))
    rintro ⟨cl,ca,cc⟩ ⟨hcl,hcc,hcn⟩
    try dsimp only at hcl hcc hcn
    try dsimp only
    try dsimp only at hcl hcc hcn
    subst hcl
    refine oj (mv Z Z (oj (call Z Z (.cons Z (.cons Z .nil)) fb_109 (needed_spec ⟨Hh g.tr.l ls,ca,cc⟩ author)  (fun w h=>tR) ?_)))
    rintro ⟨qa,qb⟩ _
    try dsimp only
    refine on (qn (Ag ?_))
    refine Hr Z Z fb_180 (needed_it ⟨Hh g.tr.l ls,ca,cc⟩ (by (try dsimp only); omega) author qa qb) (fun (sT:(List (Int × Int)) × (Nat) × (Option Addr) × (Nat) × (A9))=>(⟨Own 91 4 (.slice sT.2.2.1 sT.2.1 sT.2.2.2.1) sT.2.1 ((sT.1.map nbx).flatMap Bxx.cells) sT.2.2.2.2∧sT.2.1=sT.1.length,[],[bx r6 [S1 (.slice sT.2.2.1 sT.2.1 sT.2.2.2.1)] 32,sT.2.2.2.2],fun _=>True,0⟩:Hd)) (fun s x s'=>s'.1=s.1++[x]) (([],0,none,0,none)) (⟨.nil,Z⟩) (List.Sublist.refl _) (fun w h=>⟨(h.1.1),(h.1.2.1),(h.2.1.1),tR⟩) (fun w h=>tR) (fun _=>⟨Z,Z⟩) ?_ ?_
    ·rintro ⟨us,n,va,vc,en⟩ x ⟨ho,hn⟩ ⟨ys,zs,hrn,hG⟩ rl rd fn tm X1 w1
     try dsimp only [List.cons_append,List.nil_append]
     try dsimp only at ho hn ys zs hrn hG
     have hxs:=run_map (g:=fun s:List (Int × Int) × Nat × Option Addr × Nat × A9=>s.1) (f:=id) (fun _ _ _ h=>h) hrn
     dsimp only at hxs hG
     rw [List.nil_append,List.map_id] at hxs
     have hxl:n < 131072:=by
      rw [hn,hxs]
      have h1:=ndL_len (Hh g.tr.l ls) author
      rw [← hG] at h1
      simp only [List.length_append,List.length_cons] at h1
      omega
     refine Ab (Aa (oj (Ak Z Z (on (qn (Aa (oj (Ak Z Z (on (qn (Fy (.tail (.tail .head)) (Ag (Aa (oj (Bh Z Z Db (.head _) (Z) (oj (mv Z Z (oj (mv Z Z (oj (bld Z lay_91 (Ch Z Z (.head Z) (Ch Z Z (.tail (.head Z)) .nil)) ?_)))))))))))))))))))))
     refine oj (F7 Z Tryz.underlying32 E1 I9 (.agg (s:=Fr 4 [iv x.2,iv x.1,iv 0,.slice none 0 0]) Z .nil) (by repeat (first | exact List.forall_mem_nil _ | refine List.forall_mem_cons.2 ⟨rfl,?_⟩)) Z (by decide) Z (fun r34=>?_))
     refine Al (Am 0 _ _ Z) ?_
     try dsimp only [List.eraseIdx]
     refine oj (Ku Z Z Z el_32 (by kernel_rfl) ho (i:=1) Z (fun w ho h=>Bc.src (h.1.1) Z) (by omega) (by simp only [maxLen]; omega) (fun v35 e35 ho35=>?_))
     try dsimp only [List.set]
     obtain ⟨va35,vc35,hv35,hc35⟩:=ho35.shape'
     subst hv35
     exact oj (Cr Z Z Db Z .head (.head Z) Z (on (bn (Ik ((us++[x],n+1,va35,vc35,e35)) (.tail (.tail .head)) Z (⟨⟨by rw [List.map_append,List.map_singleton,Dj]; exact ho35,by simp [hn]⟩,Z⟩) (.refl _) (fun w h=>tR)))))
    ·rintro ⟨us,n,va,vc,en⟩ rd6 ⟨ho,hn⟩ ⟨xs,hG,hrun⟩
     try dsimp only [List.cons_append,List.nil_append]
     try dsimp only at ho hn hG hrun
     have hxs:=run_map (g:=fun s:List (Int × Int) × Nat × Option Addr × Nat × A9=>s.1) (f:=id) (fun _ _ _ h=>h) hrun
     dsimp only at hxs
     rw [hG,List.nil_append,List.map_id] at hxs
     subst hn
     refine bn (qn (Ab (Aa (oj (Bh Z Z Db (.tail _ (.head _)) (Z) (oj (Cr Z Z Db Z (.tail .head) (.head Z) Z (oj (Ak Z Z (on (qn (Af ?_))))))))))))
     have hcv:us.length≤vc:=by
      obtain ⟨_,_,e,h⟩:=ho.shape'
      cases e
      exact h
     have hL:(Hw g author ls).length=us.length:=by rw [hz.2,hxs,List.length_map]
     refine By (i:=2) Z ho (Do (fun _=>Z) _) ?_
     try dsimp only [List.eraseIdx]
     refine retM (ds:=[rd6]) (va,vc) Z (.refl _) Z (.cell1 Z Db (.head _) Z (.tmp Z .nil)) (by show Value.tuple #[_,_]=Value.tuple #[.slice va (Hw g author ls).length vc,iv (ndE g author ls)]; rw [hL,hz.1]) (by show (Hw g author ls).length≤vc; rw [hL]; exact hcv) (Bl _) (fun w h=>(by show Sl 4 (Hw g author ls).length _ (.slice va (Hw g author ls).length vc) _∧True; rw [hL,hz.2,← hxs]; exact ⟨(h.1.1),trivial⟩)) (.inl Z)
theorem ups_nine:∀ (k n:Nat),2 ^ k≤n→n < 2 ^ (k+1)→(ups n).length=k
 | 0,n,h1,h2=>by rw [ups_le (by omega)]; rfl
 | k+1,n,h1,h2=>by
  have h3:0 < 2 ^ k:=Nat.two_pow_pos k
  rw [Nat.pow_succ] at h1 h2
  rw [Nat.pow_succ] at h2
  rw [ups_gt (by omega),List.length_cons,ups_nine k (n / 2) (by omega) (by rw [Nat.pow_succ]; omega)]
theorem alL_nine {d:Int} {q:Nat→Int} (h:Eo d=true):(Dz d q).length=9:=by
 have h2:=Bu.1 h
 rw [Dz,if_pos h,List.length_map,ups_nine 9 _ (by omega) (by omega)]
theorem renew_spec (t:Tr) (hl:t.l.length≤10000) (d:Int) (ps:List Int) (psa:Option Addr) (psc:Nat) (hpl:ps.length=10) (hpe:∀ p∈ps,el p=true) :
  Ay Tryz.prog 53 [t.v,iv d,.slice psa ps.length psc] [] (fun w=>t.F w∧Sl 1 ps.length (ps.flatMap fun x=>[iv x]) (.slice psa ps.length psc) w∧True) (fun x:Tr × Int=>⟨(Ie t.l d true→x.1.l=srtL (rnF t.l d ps)∧x.1.l.length≤x.1.c∧x.1.l.length≤t.l.length+65∧x.2=0)∧(¬ Ie t.l d true→x.2=chB t.l),.tuple #[x.1.v,iv x.2],[],fun w=>x.1.F w∧True⟩):=by
 by_cases hc:Ie t.l d true
 ·exact Je (renew_ok t hl d ps psa psc hc hpl hpe (alL_nine hc.2.1)) fun x ⟨h1,h2,h3⟩=>⟨(x,0),⟨fun _=>⟨h1,h2,h3,Z⟩,fun h=>absurd hc h⟩,Z,Z,fun _ h=>h⟩
 ·exact Je (G5 (renew_bad t hl d ps psa psc hc) (fun w h=>⟨h.1,tR⟩)) fun x h1=>⟨(x,chB t.l),⟨fun h=>absurd h hc,fun _=>Z⟩,Z,Z,fun _ h=>h⟩
theorem chB_ne (l:List (Int × Int)):chB l≠0:=by unfold chB; split <;> decide
def sbB (a b:Bxx):Bool:=decide (a.n=b.n) && decide (a.lv=b.lv)
def swB (w:Wlc) (y:Chg):Bool:=decide (w.d=y.d)
def wlB (c:Cm):Bool:=decide (c.wl.map (·.d)=((wcF c.author c.ch).map (·.d)).mergeSort fun x y=>decide (x≤y))
theorem eqF_sw {ws:List Wlc} {ys:List Chg}:eqF swB ws ys=true↔ws.map (·.d)=ys.map (·.d):=by
 unfold eqF
 rw [Bool.and_eq_true]
 constructor
 ·rintro ⟨hl,h⟩
  have hl:ws.length=ys.length:=by simpa using hl
  apply List.ext_getElem?
  intro i
  rw [List.getElem?_map,List.getElem?_map]
  by_cases hi:i < ws.length
  ·rw [List.getElem?_eq_getElem hi,List.getElem?_eq_getElem (by omega)]
   have:=List.all_eq_true.1 h (ws[i],ys[i]'(by omega)) (List.mem_of_getElem? (i:=i) (by rw [List.getElem?_zip_eq_some]; exact ⟨List.getElem?_eq_getElem hi,List.getElem?_eq_getElem (by omega)⟩))
   simp only [swB,decide_eq_true_eq] at this
   simp [this]
  ·rw [List.getElem?_eq_none (by omega),List.getElem?_eq_none (by omega)]; rfl
 ·intro h
  have hl:ws.length=ys.length:=by have:=congrArg List.length h; simpa using this
  refine ⟨by simpa using hl,?_⟩
  rw [List.all_eq_true]
  intro p hp
  obtain ⟨j,hj⟩:=List.mem_iff_getElem?.1 hp
  rw [List.getElem?_zip_eq_some] at hj
  have:=congrArg (·[j]?) h
  simp only [List.getElem?_map,hj.1,hj.2,Option.map_some,Option.some.injEq] at this
  simpa [swB] using this
theorem sorted_unique {xs ys:List Int} (hp:xs.Perm ys) (h1:xs.Pairwise (·≤·)) (h2:ys.Pairwise (·≤·)):xs=ys :=
 hp.eq_of_pairwise (fun a b _ _ h3 h4=>by omega) h1 h2
theorem wl_eq {c:Cm} {ys:List Chg} (hp:ys.Perm (wcF c.author c.ch)) (hs:ys.Pairwise fun a b=>a.d≤b.d):eqF swB c.wl ys=wlB c:=by
 have h1:ys.map (·.d)=((wcF c.author c.ch).map (·.d)).mergeSort fun x y=>decide (x≤y):=by
  refine sorted_unique ((hp.map _).trans (List.mergeSort_perm _ _).symm) ?_ ?_
  ·rw [List.pairwise_map]; exact hs
  ·have h1:=List.pairwise_mergeSort (le:=fun x y:Int=>decide (x≤y)) (fun a b c h1 h2=>by simp at *; omega) (fun a b=>by simp; omega) ((wcF c.author c.ch).map (·.d))
   exact h1.imp fun h=>by simpa using h
 unfold wlB
 rw [← h1]
 cases h:eqF swB c.wl ys with
 | true=>exact (decide_eq_true (eqF_sw.1 h)).symm
 | false=>exact (decide_eq_false fun h2=>by rw [eqF_sw.2 h2] at h; cases h).symm
noncomputable def bbB (g:Gp) (c:Cm):Bool:=eqF sbB c.bx (Hw g c.author c.ch)
open Classical in
noncomputable def nxE (g:Gp) (c:Cm):Int :=
 if ¬ Kt g then 1 else if ¬ CkP c then 220 else if ¬ (c.folder=g.folder∧c.epoch=g.epoch+1∧c.parent=g.last) then 220 else
 if ndE g c.author c.ch≠0 then ndE g c.author c.ch else if ¬ (bbB g c=true∧wlB c=true) then 220 else
 if ¬ verB (vkI g c.author c.ch) (Hq c).b c.sr c.ss=true then 222 else if ¬ Ie (Hh g.tr.l c.ch) c.author true then chB (Hh g.tr.l c.ch) else 0
def chM (c:Cm) (m:Mb):Bool:=c.ch.any fun y=>decide (y.d=m.d)
def nwM (c:Cm) (y:Chg):Mb:=⟨y.d,c.epoch,y.v⟩
def nmL (g:Gp) (c:Cm):List Mb:=(g.ms.filter fun m=>!chM c m)++(c.ch.filter fun y=>decide (y.k≠2)).map (nwM c)
structure NxR (g:Gp) (c:Cm) (x:Gp):Prop where
 fo:x.folder=g.folder
 ep:x.epoch=c.epoch
 la:x.last=cid c
 tr:x.tr.l=srtL (rnF (Hh g.tr.l c.ch) c.author c.path)
 tc:x.tr.l.length≤x.tr.c
 tl:x.tr.l.length≤g.tr.l.length+c.ch.length+65
 pm:x.ms.Perm (nmL g c)
 so:x.ms.Pairwise fun a b=>a.d≤b.d
 mc:x.ms.length≤x.mC
def gZ:Gp:=⟨0,0,Dig.zero,[],none,0,⟨[],none,0⟩⟩
theorem next1_spec (a b:Bxx):Ay Tryz.prog 45 [av a.segs,av b.segs] [] (fun _=>True) (fun _:Unit=>⟨True,.bool (sbB a b),[],fun _=>True⟩):=by
 refine Aj Tryz.func45 Z Z fun X w0=>(Ab (Aa (oj (C6 Z Z (fun r2=>(Al (Am 0 _ _ Z) ?_))))))
 try dsimp only [List.eraseIdx]
 refine oj (C6 Z Z (fun r3=>(Al (Am 0 _ _ Z) ?_)))
 try dsimp only [List.eraseIdx]
 refine oj (Ak Z Z (on (qn (Ab (Aa (oj (A2 (o':=0) Z Z Hc Ai Z (oj (A4 Z Z Ai (fun w h=>Bc.at1 h.2.1.1 Z) (oj (A2 (o':=0) Z Z Hc Ai Z (oj (A4 Z Z Ai (fun w h=>Bc.at1 h.1.1 Z) (oj (Eu Z Z Z (oj (mv Z Z ?_)))))))))))))))))
 refine Kh (d:=10) Z (fun h1=>?_) (fun h1=>?_)
 ·refine oj (gt Z Z Z ((A2 (o':=1) Z Z Hb Ai Z (oj (gt Z Z Z ((A4 Z Z Ai (fun w h=>Bc.at1 h.2.1.1 Z) (oj (gt Z Z Z ((A2 (o':=1) Z Z Hb Ai Z (oj (gt Z Z Z ((A4 Z Z Ai (fun w h=>Bc.at1 h.1.1 Z) (oj (gt Z Z Z ((Eu Z Z Z (oj (Cl Z Z Z (oj (Ak Z Z (on (qn (Af (Ac (d:=4) (v:=.bool (sbB a b)) Z (by unfold sbB; simp_all [beqI]) ?_)))))))))))))))))))))))))))
  exact As () Z (.tmp Z .nil) Z tR .slnil (fun w h=>tR) (.inl Z)
 ·exact oj (gf Z Z Z Z Z Z (oj (gf Z Z Z Z Z Z (oj (gf Z Z Z Z Z Z (oj (gf Z Z Z Z Z Z (oj (gf Z Z Z Z Z Z (oj (Df Z Z Z (oj (Ak Z Z (on (qn (Af (Ac (d:=4) (v:=.bool (sbB a b)) Z (by unfold sbB; simp_all [beqI]) (As () Z (.tmp Z .nil) Z tR .slnil (fun w h=>tR) (.inl Z)))))))))))))))))))
theorem next2_spec (a:Wlc) (b:Chg):Ay Tryz.prog 46 [av a.segs,av b.segs] [] (fun _=>True) (fun _:Unit=>⟨True,.bool (swB a b),[],fun _=>True⟩):=by
 refine Aj Tryz.func46 Z Z fun X w0=>(Ab (Aa (oj (C6 Z Z (fun r2=>(Al (Am 0 _ _ Z) ?_))))))
 try dsimp only [List.eraseIdx]
 refine oj (C6 Z Z (fun r3=>(Al (Am 0 _ _ Z) ?_)))
 try dsimp only [List.eraseIdx]
 exact oj (Ak Z Z (on (qn (Ab (Aa (oj (A2 (o':=0) Z Z Ki Ai Z (oj (A4 Z Z Ai (fun w h=>Bc.at1 h.2.1.1 Z) (oj (A2 (o':=1) Z Z Ds Ai Z (oj (A4 Z Z Ai (fun w h=>Bc.at1 h.1.1 Z) (oj (Eu Z Z Z (oj (Ak Z Z (on (qn (Af (Ac (d:=4) (v:=.bool (swB a b)) Z (by unfold swB; simp_all [beqI]) (As () Z (.tmp Z .nil) Z tR .slnil (fun w h=>tR) (.inl Z)))))))))))))))))))))))
theorem next31_spec (y:Chg) (m:Mb) (r:Nat):Ay Tryz.prog 57 [av y.segs,Bg r 0] [] (fun w=>Bc r m.segs 45 w∧True) (fun _:Unit=>⟨True,.bool (decide (y.d=m.d)),[],fun _=>True⟩):=by
 refine Aj Tryz.func57 Z Z fun X w0=>(Ab (Aa (oj (C6 Z Z (fun r2=>(Al (Am 0 _ _ Z) ?_))))))
 try dsimp only [List.eraseIdx]
 exact oj (Ak Z Z (on (qn (Ab (Aa (oj (A2 (o':=1) Z Z Ds Ai Z (oj (A4 Z Z Ai (fun w h=>Bc.at1 h.1.1 Z) (oj (A2 (o':=0) Z Z fld_45_0 Ai Z (oj (A4 Z Z Ai (fun w h=>Bc.at1 (h.2.1) Z) (oj (Eu Z Z Z (oj (Ak Z Z (on (qn (Af (Ac (d:=3) (v:=.bool (decide (y.d=m.d))) Z (by simp_all [beqI]) (As () Z (.tmp Z .nil) Z tR .slnil (fun w h=>tR) (.inl Z)))))))))))))))))))))))
theorem next3_spec (c:Cm) (hc:c.ch.length≤1000) (m:Mb) (r:Nat):Ay Tryz.prog 55 [av m.segs,Bg r 0] [] (fun w=>Bc r c.segs 37 w∧CF1 c w∧True) (fun _:Unit=>⟨True,.bool (chM c m),[],fun _=>True⟩):=by
 refine Aj Tryz.func55 Z Z fun X w0=>(Ab (Aa (oj (C6 Z Z (fun r2=>(Al (Am 0 _ _ Z) ?_))))))
 try dsimp only [List.eraseIdx]
 exact oj (Ak Z Z (on (qn (Ab (Aa (oj (A2 (o':=35) Z Z Es Et Z (oj (A4 Z Z Et (fun w h=>Bc.at1 (h.2.1) Z) (oj (mkF Z .nil (.cons Z .nil) (oj (Ao Z Z (.cons Z (.cons Z .nil)) fb_56 (Ka (fun w=>Bc r2 m.segs 45 w∧True) c.cA c.ch.length c.cC c.ch Z (by omega) 57 [] [Bg r2 0] (fun y=>decide (y.d=m.d)) fb_57 (fun y _=>next31_spec y m r2))  (fun w h=>⟨(h.2.2.1),⟨(h.1.1),tR⟩,tR⟩) Z (fun _=>(Ae (fun w h=>h.2) (oj (Ak Z Z (on (qn (Af (As () Z (.tmp Z .nil) Z tR .slnil (fun w h=>tR) (.inl Z))))))))))))))))))))))
end Go.Chx
