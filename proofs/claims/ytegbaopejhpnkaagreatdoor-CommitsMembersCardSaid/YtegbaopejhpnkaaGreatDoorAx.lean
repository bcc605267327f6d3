/- Part of the proof that the law CommitsMembers holds. -/
import Derived.Test.YtegbaopejhpnkaaGreatDoorAa
import Derived.Test.YtegbaopejhpnkaaGreatDoorAh
import Derived.Test.YtegbaopejhpnkaaGreatDoorAm
import Derived.Test.YtegbaopejhpnkaaGreatDoorAw
namespace Go.Chx
open Go Go.Proofs
set_option maxHeartbeats 1000000
set_option maxRecDepth 4000
theorem nx1 {g:Gp} {c:Cm} (h : ¬ Kt g):nxE g c=1:=by unfold nxE; rw [if_pos h]
theorem nx2 {g:Gp} {c:Cm} (h:Kt g) (h2 : ¬ CkP c):nxE g c=220:=by unfold nxE; rw [if_neg (fun k=>k h),if_pos h2]
theorem nx3 {g:Gp} {c:Cm} (h:Kt g) (h2:CkP c) (h3 : ¬ (c.folder=g.folder∧c.epoch=g.epoch+1∧c.parent=g.last)):nxE g c=220:=by unfold nxE; rw [if_neg (fun k=>k h),if_neg (fun k=>k h2),if_pos h3]
theorem nx4 {g:Gp} {c:Cm} (h:Kt g) (h2:CkP c) (h3:c.folder=g.folder∧c.epoch=g.epoch+1∧c.parent=g.last) (h4:ndE g c.author c.ch≠0):nxE g c=ndE g c.author c.ch:=by unfold nxE; rw [if_neg (fun k=>k h),if_neg (fun k=>k h2),if_neg (fun k=>k h3),if_pos h4]
theorem nx5 {g:Gp} {c:Cm} (h:Kt g) (h2:CkP c) (h3:c.folder=g.folder∧c.epoch=g.epoch+1∧c.parent=g.last) (h4:ndE g c.author c.ch=0) (h5 : ¬ (bbB g c=true∧wlB c=true)):nxE g c=220:=by unfold nxE; rw [if_neg (fun k=>k h),if_neg (fun k=>k h2),if_neg (fun k=>k h3),if_neg (fun k=>k h4),if_pos h5]
theorem nx6 {g:Gp} {c:Cm} (h:Kt g) (h2:CkP c) (h3:c.folder=g.folder∧c.epoch=g.epoch+1∧c.parent=g.last) (h4:ndE g c.author c.ch=0) (h5:bbB g c=true∧wlB c=true) (h6 : ¬ verB (vkI g c.author c.ch) (Hq c).b c.sr c.ss=true):nxE g c=222:=by unfold nxE; rw [if_neg (fun k=>k h),if_neg (fun k=>k h2),if_neg (fun k=>k h3),if_neg (fun k=>k h4),if_neg (fun k=>k h5),if_pos h6]
open Classical in
theorem nx7 {g:Gp} {c:Cm} (h:Kt g) (h2:CkP c) (h3:c.folder=g.folder∧c.epoch=g.epoch+1∧c.parent=g.last) (h4:ndE g c.author c.ch=0) (h5:bbB g c=true∧wlB c=true) (h6:verB (vkI g c.author c.ch) (Hq c).b c.sr c.ss=true):nxE g c=if ¬ Ie (Hh g.tr.l c.ch) c.author true then chB (Hh g.tr.l c.ch) else 0:=by unfold nxE; rw [if_neg (fun k=>k h),if_neg (fun k=>k h2),if_neg (fun k=>k h3),if_neg (fun k=>k h4),if_neg (fun k=>k h5),if_neg (fun k=>k h6)]
theorem ndE_ok {g:Gp} {a:Int} {xs:List Chg} (h:ndE g a xs=0):Kt g∧FmP xs∧psB g a xs=true:=by
 unfold ndE at h
 split at h
 ·rename_i h1
  split at h
  ·rename_i h2; exact ⟨h1,h2⟩
  ·cases h
 ·cases h
theorem psB_ne {g:Gp} {a:Int} {xs:List Chg} (hv:0≤g.epoch) (h:psB g a xs=true):Gu g.ms a=false→xs≠[]:=by
 intro h1 h2
 subst h2
 unfold psB at h
 rw [h1] at h
 simp at h
 omega
abbrev grp (f e:Int) (d:Dig) (va:Option Addr) (n vc:Nat) (ta:Option Addr) (tn tc:Nat):List Seg:=[S1 (iv f),S1 (iv e),sd d,S1 (.slice va n vc),Fr 1 [.slice ta tn tc]]
theorem I3 (g:Gp) (c:Cm) (hl:g.ms.length≤10000) (htl:g.tr.l.length≤1000) (htc:g.tr.l.length≤g.tr.c) (hc:CmOk c) (hbl:∀ x∈c.bx,x.b.length≤1000000000) (hwl:∀ x∈c.wl,x.b.length≤1000000000):Ay Tryz.prog 11 [av g.segs,av c.segs] [] (fun w=>GF1 g w∧g.tr.F w∧CF1 c w∧CF2 c w∧CF3 c w∧CF4 c w∧CF5 c w∧CF6 c w∧De 1 (Av .u32 B9) w∧De 3 (Av .u32 D1) w∧True) (fun x:Gp=>⟨(nxE g c=0→NxR g c x)∧(nxE g c≠0→x=gZ),.tuple #[av x.segs,iv (nxE g c)],[],fun w=>GF1 x w∧x.tr.F w∧True⟩):=by
 refine Aj Tryz.func11 Z Z fun X w0=>?_
 have hcb:=hc.b
 have hcl:=hcb.h1
 have hcb3:=hcb.h3
 have hcb4:=hcb.h4
 refine Ab (Aa (oj (C6 Z Z (fun r2=>(Al (Am 0 _ _ Z) ?_)))))
 try dsimp only [List.eraseIdx]
 refine oj (C6 Z Z (fun r3=>(Al (Am 0 _ _ Z) ?_)))
 try dsimp only [List.eraseIdx]
 refine oj (C7 Z zok_29 (fun r4=>(oj (Ak Z Z (on (qn (Ab (Ab (Aa (oj (Bx Z Z B4 (fun w h=>h.2.1.1) Z (oj (Ao Z Z (.cons Z .nil) fb_44 (valid_spec g (by omega) (by omega))  (fun w h=>⟨(h.2.2.1),(Cu h),tR⟩) Z (fun _=>(Ae (fun w h=>h.2) (oj (not Z Z (on (qn ?_)))))))))))))))))))
 refine Ap Z (fun h1=>?_) (fun h1=>?_)
 ·exact Ab (Aa (oj (Eb Z Z B4 (.head _) Z (oj (C0 Z Z B4 Z Z .head (oj (Ak Z Z (on (qn (Af (qr (As gZ Z (.cellW Z B4 (.head _) Z (.tmp Z .nil)) (by rw [nx1 (fun k=>by rw [vlB_t k] at h1; cases h1)]; rfl) ⟨fun h=>absurd h (by rw [nx1 (fun k=>by rw [vlB_t k] at h1; cases h1)]; exact by decide),fun _=>Z⟩ (Bl _) (fun w h=>⟨Be,Be,tR⟩) (.inl Z)))))))))))))
 ·have hv:=vlB_iff.1 (show vlB g=true by simpa using h1)
  refine Ah (qn (Ab (Ab (Aa (oj (Bx Z Z Bk (fun w h=>h.1.1) Z (oj (Ao Z Z (.cons Z .nil) fb_15 (kcheck_spec c hc.b hbl hwl)  (fun w h=>⟨(Dw h),(Ez h),(Ec h),(Gg h),tR⟩) Z (fun _=>(Ae (fun w h=>h.2) (oj (Ak Z Z (on (qn (Ab (Aa (oj (mv Z Z (oj (G2 Z Z Z (on ?_)))))))))))))))))))))
  refine qn ?_
  refine C5 Z (fun h2=>?_) (fun h2=>?_)
  ·
   exact Ab (Aa (oj (Eb Z Z B4 (.head _) Z (oj (mv Z Z (oj (C0 Z Z B4 Z Z .head (oj (Ak Z Z (on (qn (Af (qr (Ac (d:=5) (v:=iv 220) Z (by rw [Dy (fun k=>h2 (ckE_iff.2 k))]) (As gZ Z (.cellW Z B4 (.head _) Z (.tmp Z .nil)) (by rw [nx2 hv (fun k=>h2 (ckE_iff.2 k))]; rfl) ⟨fun h=>absurd h (by rw [nx2 hv (fun k=>h2 (ckE_iff.2 k))]; exact by decide),fun _=>Z⟩ (Bl _) (fun w h=>⟨Be,Be,tR⟩) (.inl Z))))))))))))))))
  ·have hck:=ckE_iff.1 (show ckE c=0 by simpa using h2)
   refine Ah (qn (Ab (Ab (Aa (oj (A2 (o':=0) Z Z Jj Ai Z (oj (A4 Z Z Ai (fun w h=>Bc.at1 h.1.1 Z) (oj (A2 (o':=0) Z Z fld_29_0 Ai Z (oj (A4 Z Z Ai (fun w h=>Bc.at1 h.2.1.1 Z) (oj (G2 Z Z Z (oj (mv Z Z ?_))))))))))))))))
   refine kj_ne (d:=28) Z (fun h3=>?_) (fun h3=>?_)
   ·refine oj (gf Z Z Z Z Z Z (oj (gf Z Z Z Z Z Z (oj (gf Z Z Z Z Z Z (oj (gf Z Z Z Z Z Z (oj (gf Z Z Z Z Z Z (oj (gf Z Z Z Z Z Z (oj (Cl Z Z Z (oj (mv Z Z (oj (gf Z Z Z Z Z Z (oj (gf Z Z Z Z Z Z (oj (gf Z Z Z Z Z Z (oj (gf Z Z Z Z Z Z (oj (gf Z Z Z Z Z Z (oj (Cl Z Z Z (on (qn ?_)))))))))))))))))))))))))))))
    exact Ap Z (fun _=>(Ab (Aa (oj (Eb Z Z B4 (.head _) Z (oj (C0 Z Z B4 Z Z .head (oj (Ak Z Z (on (qn (Af (qr (As gZ Z (.cellW Z B4 (.head _) Z (.tmp Z .nil)) (by rw [nx3 hv hck (fun k=>h3 k.1)]; rfl) ⟨fun h=>absurd h (by rw [nx3 hv hck (fun k=>h3 k.1)]; exact by decide),fun _=>Z⟩ (Bl _) (fun w h=>⟨Be,Be,tR⟩) (.inl Z))))))))))))))) (fun h=>by cases h)
   ·refine oj (gt Z Z Z ((A2 (o':=1) Z Z Fj Ai Z (oj (gt Z Z Z ((A4 Z Z Ai (fun w h=>Bc.at1 h.1.1 Z) (oj (gt Z Z Z ((A2 (o':=1) Z Z F3 Ai Z (oj (gt Z Z Z ((A4 Z Z Ai (fun w h=>Bc.at1 h.2.1.1 Z) (oj (gt Z Z Z ((add Z Z Z (by have:=hv.2.2.2.1; have:=hv.2.2.1; omega) (oj (gt Z Z Z ((G2 Z Z Z (oj (Df Z Z Z (oj (mv Z Z ?_)))))))))))))))))))))))))))
    refine kj_ne (d:=36) Z (fun h4=>?_) (fun h4=>?_)
    ·refine oj (gf Z Z Z Z Z Z (oj (gf Z Z Z Z Z Z (oj (gf Z Z Z Z Z Z (oj (gf Z Z Z Z Z Z (oj (gf Z Z Z Z Z Z (oj (Cl Z Z Z (on (qn (Ap Z (fun _=>(Ab (Aa (oj (Eb Z Z B4 (.head _) Z (oj (C0 Z Z B4 Z Z .head (oj (Ak Z Z (on (qn ?_))))))))))) (fun h=>by cases h)))))))))))))))
     exact Af (qr (As gZ Z (.cellW Z B4 (.head _) Z (.tmp Z .nil)) (by rw [nx3 hv hck (fun k=>h4 k.2.1)]; rfl) ⟨fun h=>absurd h (by rw [nx3 hv hck (fun k=>h4 k.2.1)]; exact by decide),fun _=>Z⟩ (Bl _) (fun w h=>⟨Be,Be,tR⟩) (.inl Z)))
    ·refine oj (gt Z Z Z ((A2 (o':=2) Z Z Kl Dc Z (oj (gt Z Z Z ((D4 Z Z Dc (sd _).h (fun w h=>Bc.atS h.1.1 Z) (Ac (d:=38) (v:=.agg (Av .u8 (c.parent.b.map fun b=>(b.toNat:Int))).toArray) Z (by show Value.agg (An c.parent.b).toArray=_; rw [D9]) (oj (gt Z Z Z ((A2 (o':=2) Z Z fld_29_2 Dc Z (oj (gt Z Z Z ((D4 Z Z Dc (sd _).h (fun w h=>Bc.atS h.2.1.1 Z) (Ac (d:=40) (v:=.agg (Av .u8 (g.last.b.map fun b=>(b.toNat:Int))).toArray) Z (by show Value.agg (An g.last.b).toArray=_; rw [D9]) (oj (gt Z Z Z ((nea (k:=.u8) (xs:=(c.parent.b.map fun b=>(b.toNat:Int))) (ys:=(g.last.b.map fun b=>(b.toNat:Int))) Z Z Z Tryz.underlying23 Tryz.underlying5 Bv eg_23 (by rw [List.length_map]; exact c.parent.h) (by rw [List.length_map]; exact g.last.h) (oj (Df Z Z Z (on (qn ?_)))))))))))))))))))))))))
     refine Ap Z (fun h5=>?_) (fun h5=>?_)
     ·exact Ab (Aa (oj (Eb Z Z B4 (.head _) Z (oj (C0 Z Z B4 Z Z .head (oj (Ak Z Z (on (qn (Af (qr (As gZ Z (.cellW Z B4 (.head _) Z (.tmp Z .nil)) (by rw [nx3 hv hck (fun k=>by rw [k.2.2] at h5; simp at h5)]; rfl) ⟨fun h=>absurd h (by rw [nx3 hv hck (fun k=>by rw [k.2.2] at h5; simp at h5)]; exact by decide),fun _=>Z⟩ (Bl _) (fun w h=>⟨Be,Be,tR⟩) (.inl Z)))))))))))))
     ·have h345:c.folder=g.folder∧c.epoch=g.epoch+1∧c.parent=g.last:=⟨by omega,by omega,Dig_ext (by have h9:=dig_eq c.parent g.last; simpa [bne,h9] using h5)⟩
      refine Ah (qn (Ab (Aa (oj (Bx Z Z B4 (fun w h=>h.2.1.1) Z (oj (A2 (o':=34) Z Z H8 Ai Z (oj (A4 Z Z Ai (fun w h=>Bc.at1 h.1.1 Z) (oj (A2 (o':=35) Z Z Es Et Z (oj (A4 Z Z Et (fun w h=>Bc.at1 h.1.1 Z) (oj (call Z Z (.cons Z (.cons Z (.cons Z .nil))) fb_37 (Iy g c.author c.cA c.cC c.ch (by omega) htl htc hcl)  (fun w h=>⟨(h.2.2.1),(Cu h),(Dw h),tR⟩) ?_)))))))))))))))
      rintro ⟨na,nc⟩ hnc
      try dsimp only at hnc
      try dsimp only
      have hnl:=ndR_len g c.author c.ch
      refine oj (mv Z Z (oj (ext Z Z Z (oj (ext Z Z Z (oj (Ak Z Z (oj (Ak Z Z (on (qn (Ab (Ab (Aa (oj (mv Z Z (oj (G2 Z Z Z (on (qn ?_))))))))))))))))))))
      refine C5 Z (fun h6=>?_) (fun h6=>?_)
      ·exact Ab (Aa (oj (Eb Z Z B4 (.head _) Z (oj (mv Z Z (oj (C0 Z Z B4 Z Z .head (oj (Ak Z Z (on (qn (Af (qr (As gZ Z (.cellW Z B4 (.head _) Z (.tmp Z .nil)) (by rw [nx4 hv hck h345 h6]; rfl) ⟨fun h=>absurd h (by rw [nx4 hv hck h345 h6]; exact h6),fun _=>Z⟩ (Bl _) (fun w h=>⟨Be,Be,tR⟩) (.inl Z)))))))))))))))
      ·obtain ⟨_,hfm,hps⟩:=ndE_ok h6
       refine Ah (qn (Ab (Aa (oj (Ak Z Z (on (qn (Ab (Aa (oj (Ak Z Z (on (qn (Ab (Ab (A5 mo (A3 [0,1,2,3] (fun _=>false) (by kernel_rfl) Z Z ?_)))))))))))))))))
       refine .det _ (fun Q K R m k=>(A2 (o':=37) Z Z D7 Db Z k)) (.det _ (fun Q K R m k=>(A4 Z Z Db (fun w h=>Bc.at1 h.1.2.1.1 Z) k)) (.det _ (fun Q K R m k=>(mv Z Z k)) (.det _ (fun Q K R m k=>(mv Z Z k)) (.nil (Ad 4 ((Ao Z Z (.cons Z (.cons Z (.cons Z .nil))) fb_47 (equalf_bb (fun _=>True) c.bA na c.bx.length c.bC (Hw g c.author c.ch).length nc c.bx (Hw g c.author c.ch) Z Z (by omega) 45 [] [] sbB fb_45 (fun x _ y _=>next1_spec x y))  (fun w h=>⟨(Fg h),(h.1.1),tR,tR⟩) Z (fun _=>(Ae (fun w h=>h.2) (Ad 5 ((not Z Z (Ad 6 ((mv Z Z ?_)))))))))))))))
       refine Dn (d:=63) Z (fun h7=>?_) (fun h7=>?_)
       ·refine A3 [7,8,9,10,11,12,13,14] (fun _=>false) (by kernel_rfl) Z Z (.det _ (fun Q K R m k=>(gf Z Z Z Z Z Z k)) (.det _ (fun Q K R m k=>(gf Z Z Z Z Z Z k)) (.det _ (fun Q K R m k=>(gf Z Z Z Z Z Z k)) (.det _ (fun Q K R m k=>(gf Z Z Z Z Z Z k)) (.det _ (fun Q K R m k=>(gf Z Z Z Z Z Z k)) (.det _ (fun Q K R m k=>(gf Z Z Z Z Z Z k)) (.det _ (fun Q K R m k=>(gf Z Z Z Z Z Z k)) (.det _ (fun Q K R m k=>(gf Z Z Z Z Z Z k)) (.nil (Ad 15 ((gf Z Z Z Z Z Z (Ad 16 ((gf Z Z Z Z Z Z (Ad 17 ((Cl Z Z Z ?_))))))))))))))))))
        exact A6 (qn (Ap Z (fun _=>(Ab (Aa (oj (Eb Z Z B4 (.head _) Z (oj (C0 Z Z B4 Z Z .head (oj (Ak Z Z (on (qn (Af (qr (As gZ Z (.cellW Z B4 (.head _) Z (.tmp Z .nil)) (by rw [nx5 hv hck h345 h6 (fun k=>by have:=k.1; unfold bbB at this; rw [this] at h7; cases h7)]; rfl) ⟨fun h=>absurd h (by rw [nx5 hv hck h345 h6 (fun k=>by have:=k.1; unfold bbB at this; rw [this] at h7; cases h7)]; exact by decide),fun _=>Z⟩ (Bl _) (fun w h=>⟨Be,Be,tR⟩) (.inl Z))))))))))))))) (fun h=>by cases h)))
       ·refine A3 [7,8,9,10,11,12,14,13] (fun j=>Nat.beq j 13) (by kernel_rfl) Z Z (.det _ (fun Q K R m k=>(gt Z Z Z (A2 (o':=38) Z Z D2 D5 Z k))) (.det _ (fun Q K R m k=>(gt Z Z Z (A4 Z Z D5 (fun w h=>Bc.at1 h.1.2.1.1 Z) k))) (.det _ (fun Q K R m k=>(gt Z Z Z (A2 (o':=34) Z Z H8 Ai Z k))) (.det _ (fun Q K R m k=>(gt Z Z Z (A4 Z Z Ai (fun w h=>Bc.at1 h.1.2.1.1 Z) k))) (.det _ (fun Q K R m k=>(gt Z Z Z (A2 (o':=35) Z Z Es Et Z k))) (.det _ (fun Q K R m k=>(gt Z Z Z (A4 Z Z Et (fun w h=>Bc.at1 h.1.2.1.1 Z) k))) (.det _ (fun Q K R m k=>(gt Z Z Z (mv Z Z k))) (.gh (γ:=Value × A9 × List Chg) _ _ (fun x=>[bx r4 z_29 29]++[x.2.1]) _ Z (fun Q K R k=>gt Z Z Z (call Z Z (.cons Z (.cons Z .nil)) fb_49 (welcome_spec c.author c.cA c.ch.length c.cC c.ch Z (by omega))  (fun w h=>⟨(Ez h.1),tR⟩) (fun x hx=>Cn (l':=[bx r4 z_29 29]++[x.2.1]) List.perm_append_comm (Ae (fun w h=>⟨⟨h.1,h.2.1⟩,h.2.2⟩) (k x hx))))) (fun x=>⟨[x.2.1],Z⟩) ?_))))))))
        rintro ⟨v70,e70,ys⟩ ⟨hyp,hys,ho70⟩
        try dsimp only at hyp hys ho70
        try dsimp only [List.nil_append,List.cons_append]
        obtain ⟨wa,wc,rfl,hwc⟩:=ho70.shape'
        refine .nil (Ad 15 (By (i:=1) Z ho70 (Do (fun _=>Z) _) ?_))
        try dsimp only [List.eraseIdx]
        refine (gt Z Z Z (Ao Z Z (.cons Z (.cons Z (.cons Z .nil))) fb_48 (equalf_wc (fun _=>True) c.wA wa c.wl.length c.wC ys.length wc c.wl ys Z Z (by omega) 46 [] [] swB fb_46 (fun x _ y _=>next2_spec x y))  (fun w h=>⟨(Fh h),(h.1.1),tR,tR⟩) Z (fun _=>(Ae (fun w h=>h.2) (Ad 16 ((gt Z Z Z (not Z Z (Ad 17 ((Df Z Z Z (A6 (qn ?_)))))))))))))
        refine Ap Z (fun h8=>?_) (fun h8=>?_)
        ·exact Ab (Aa (oj (Eb Z Z B4 (.head _) Z (oj (C0 Z Z B4 Z Z .head (oj (Ak Z Z (on (qn (Af (qr (As gZ Z (.cellW Z B4 (.head _) Z (.tmp Z .nil)) (by rw [nx5 hv hck h345 h6 (fun k=>by have:=k.2; rw [← wl_eq hyp hys] at this; rw [this] at h8; cases h8)]; rfl) ⟨fun h=>absurd h (by rw [nx5 hv hck h345 h6 (fun k=>by have:=k.2; rw [← wl_eq hyp hys] at this; rw [this] at h8; cases h8)]; exact by decide),fun _=>Z⟩ (Bl _) (fun w h=>⟨Be,Be,tR⟩) (.inl Z)))))))))))))
        ·have hbw:bbB g c=true∧wlB c=true:=⟨by unfold bbB; simpa using h7,by rw [← wl_eq hyp hys]; simpa using h8⟩
         refine Ah (qn (Ab (Ab (A5 mo (A3 [0,1,2,3,4,5,6,8,9,7] (fun j=>Nat.beq j 7) (by kernel_rfl) Z Z (.det _ (fun Q K R m k=>(Bx Z Z B4 (fun w h=>(Dw h.1).1) Z k)) (.det _ (fun Q K R m k=>(A2 (o':=34) Z Z H8 Ai Z k)) (.det _ (fun Q K R m k=>(A4 Z Z Ai (fun w h=>Bc.at1 (Cu h.1).1 Z) k)) (.det _ (fun Q K R m k=>(A2 (o':=35) Z Z Es Et Z k)) (.det _ (fun Q K R m k=>(A4 Z Z Et (fun w h=>Bc.at1 (Cu h.1).1 Z) k)) (.det _ (fun Q K R m k=>(Ao Z Z (.cons Z (.cons Z (.cons Z .nil))) fb_51 (cverify_spec g c.author c.cA c.cC c.ch hv.ms (by omega) (psB_ne hv.2.2.1 hps))  (fun w h=>⟨(Ez h.1),(Fg h.1),tR⟩) Z (fun _=>Ae (fun w h=>h.2) k))) (.det _ (fun Q K R m k=>(Bx Z Z Bk (fun w h=>(Cu h.1).1) Z k)) (.det _ (fun Q K R m k=>(A2 (o':=71) Z Z H7 In Z k)) (.det _ (fun Q K R m k=>(D4 Z Z In Z (fun w h=>Bc.atS (Cu h.1).1 Z) k)) (.gh _ _ _ _ Z (fun Q K R k=>call Z Z (.cons Z .nil) fb_52 (cmsg_spec c hc)  (fun w h=>⟨(Fg h.1),(Gg h.1),(Io h.1),(Ew h.1),(Fh h.1),(Ev h.1),(Jr h.1),(Ij h.1),tR⟩) (fun x hx=>Ae (fun w h=>⟨⟨h.1,h.2.1⟩,h.2.2⟩) (k x hx))) (fun _=>by exact ⟨[],by simp⟩) ?_)))))))))))))))
         rintro rm _
         try dsimp only [List.nil_append,List.cons_append]
         refine .nil (Ad 10 (Ac (d:=83) (v:=.slice (some ⟨rm,0,none⟩) (Hq c).b.length 32) Z (by rw [(Hq c).h]) (Ac (d:=85) (v:=av [S1 (iv c.sr),S1 (iv c.ss)]) Z (by rfl) ((Ao Z Z (.cons Z (.cons Z (.cons Z .nil))) fb_50 (verify_spec (vkI g c.author c.ch) (Hq c).b (some ⟨rm,0,none⟩) 32 (by rw [(Hq c).h]; exact Nat.le_refl _) (by rw [(Hq c).h]; decide) c.sr c.ss)  (fun w h=>⟨(by rw [(Hq c).h]; exact (h.1.1)),(Ij h),(pQ15 h),tR⟩) Z (fun _=>(Ae (fun w h=>h.2) (Ad 11 ((not Z Z (A6 (qn ?_))))))))))))
         refine Ap Z (fun h9=>?_) (fun h9=>?_)
         ·exact Ab (Aa (oj (Eb Z Z B4 (.head _) Z (oj (C0 Z Z B4 Z Z .head (oj (Ak Z Z (on (qn (Af (qr (As gZ Z (.cellW Z B4 (.head _) Z (.tmp Z .nil)) (by rw [nx6 hv hck h345 h6 hbw (fun k=>by rw [k] at h9; cases h9)]; rfl) ⟨fun h=>absurd h (by rw [nx6 hv hck h345 h6 hbw (fun k=>by rw [k] at h9; cases h9)]; exact by decide),fun _=>Z⟩ (Bl _) (fun w h=>⟨Be,Be,tR⟩) (.inl Z)))))))))))))
         ·have hsg:verB (vkI g c.author c.ch) (Hq c).b c.sr c.ss=true:=by simpa using h9
          refine Ah (qn (Ab (A5 mo (A3 [0,1,2,3,4,5] (fun _=>false) (by kernel_rfl) Z Z (.det _ (fun Q K R m k=>(A2 (o':=0) Z Z fld_29_0 Ai Z k)) (.det _ (fun Q K R m k=>(A4 Z Z Ai (fun w h=>Bc.at1 (Ez h.1).1 Z) k)) (.det _ (fun Q K R m k=>(A2 (o':=1) Z Z Fj Ai Z k)) (.det _ (fun Q K R m k=>(A4 Z Z Ai (fun w h=>Bc.at1 (Dw h.1).1 Z) k)) (.det _ (fun Q K R m k=>(Bx Z Z Bk (fun w h=>(Dw h.1).1) Z k)) (.det _ (fun Q K R m k=>(Ao Z Z (.cons Z .nil) fb_19 (cid_spec c hc)  (fun w h=>⟨(Gg h.1),(Io h.1),(Ew h.1),(Fh h.1),(Ev h.1),(Jr h.1),(Ij h.1),(pQ15 h.1),tR⟩) Z (fun _=>Ae (fun w h=>h.2) k))) (.nil (Ad 6 ((bld Z lay_29 (Ch Z Z (.head Z) (Ch Z Z (.tail (.head Z)) (.agg Z (.tail (.tail (.head Z))) .nil))) (Ac (d:=95) (v:=av (grp g.folder c.epoch (cid c) none 0 0 none 0 0)) Z (by rfl) (Ad 7 ?_))))))))))))))))
          refine (C0 Z Z B4 Z Z .head (A6 (qn (Ab (Ab (A5 mo (A3 [0,1,2,4,5,6,7,3] (fun j=>Nat.beq j 3) (by kernel_rfl) Z Z (.det _ (fun Q K R m k=>(Bx Z Z B4 (fun w h=>(Ez h.1).1) Z k)) (.det _ (fun Q K R m k=>(A2 (o':=35) Z Z Es Et Z k)) (.det _ (fun Q K R m k=>(A4 Z Z Et (fun w h=>Bc.at1 (Dw h.1).1 Z) k)) (.det _ (fun Q K R m k=>(A2 (o':=34) Z Z H8 Ai Z k)) (.det _ (fun Q K R m k=>(A4 Z Z Ai (fun w h=>Bc.at1 (Dw h.1).1 Z) k)) (.det _ (fun Q K R m k=>(A2 (o':=36) Z Z Gn Eg Z k)) (.det _ (fun Q K R m k=>(A4 Z Z Eg (fun w h=>Bc.at1 (Dw h.1).1 Z) k)) (.gh _ _ _ _ Z (fun Q K R k=>call Z Z (.cons Z (.cons Z .nil)) fb_54 (renewed_spec g htc c.cA c.cC c.ch (by omega) hfm.el)  (fun w h=>⟨(Fg h.1),(Gg h.1),tR⟩) (fun x hx=>Ae (fun w h=>⟨⟨h.1,h.2.1⟩,h.2.2⟩) (k x hx))) (fun _=>by exact ⟨[],by simp⟩) ?_)))))))))))))))
          rintro ⟨rl,ra,rc⟩ ⟨hrl,hrc,hrn⟩
          try dsimp only at hrl hrc hrn
          try dsimp only [List.nil_append,List.cons_append]
          refine .nil (Ad 8 ((call Z Z (.cons Z (.cons Z (.cons Z .nil))) fb_53 (renew_spec ⟨rl,ra,rc⟩ (by (try dsimp only); omega) c.author c.path c.pA c.pC hck.pl hck.pe)  (fun w h=>⟨(h.1.1),(Ew h),tR⟩) ?_)))
          rintro ⟨⟨nl,na2,nc2⟩,ne⟩ ⟨hok,hbad⟩
          try dsimp only at hok hbad
          try dsimp only
          refine Ad 9 ((mv Z Z ?_))
          refine Hz (fun hk=>by
            refine Cj (i:=10) (j:=11) (by kernel_rfl) Z Z ?_ ?_
            ·refine (ext Z Z Z (Ac (d:=106) (v:=.agg (Fr 1 [.slice na2 nl.length nc2]).cs.toArray) Z (by rfl) ?_))
             refine Cj (i:=11) (j:=12) (by kernel_rfl) Z Z ?_ ?_
             ·exact (ext Z Z Z (Ad 12 ((A2 (o':=35) Z Z Ia B1 Z (Ad 13 ((Cf Z Z B1 Z .head (.tail (.tail (.tail (.tail (.head Z))))) Z hk)))))))
             ·refine (A2 (o':=35) Z Z Ia B1 Z ?_)
              refine Cj (i:=11) (j:=13) (by kernel_rfl) Z Z ?_ ?_
              ·refine (ext Z Z Z (Ad 13 ((Cf Z Z B1 Z .head (.tail (.tail (.tail (.tail (.head Z))))) Z ?_))))
               exact B2 4 (by kernel_rfl) (by repeat (first | exact trivial | refine ⟨rfl,?_⟩)) (by rfl) (by rfl) hk
              ·refine (Cf Z Z B1 Z .head (.tail (.tail (.tail (.tail (.head Z))))) Z (Ad 11 ((ext Z Z Z ?_))))
               exact B2 4 (by kernel_rfl) (by repeat (first | exact trivial | refine ⟨rfl,?_⟩)) (by rfl) (by rfl) hk
            ·refine (ext Z Z Z (Ad 10 ((ext Z Z Z (Ac (d:=106) (v:=.agg (Fr 1 [.slice na2 nl.length nc2]).cs.toArray) Z (by rfl) (Ad 12 ((A2 (o':=35) Z Z Ia B1 Z (Ad 13 ((Cf Z Z B1 Z .head (.tail (.tail (.tail (.tail (.head Z))))) Z ?_)))))))))))
             exact B2 4 (by kernel_rfl) (by repeat (first | exact trivial | refine ⟨rfl,?_⟩)) (by rfl) (by rfl) hk) ?_
          refine Ad 14 ((Ak Z Z (A6 (qn (Ab (Aa (oj (mv Z Z (oj (G2 Z Z Z (on (qn ?_))))))))))))
          refine C5 Z (fun h10=>?_) (fun h10=>?_)
          ·have hno : ¬ Ie rl c.author true:=fun k=>h10 (hok k).2.2.2
           have hne:=hbad hno
           subst hne hrl
           exact Ab (Aa (oj (bld Z lay_29 .nil (oj (mv Z Z (oj (C0 Z Z B4 Z Z .head (oj (Ak Z Z (on (qn (Af (qr (As gZ Z (.cellW Z B4 (.head _) Z (.tmp Z .nil)) (by rw [nx7 hv hck h345 h6 hbw hsg,if_pos hno]; rfl) ⟨fun h=>absurd h (by rw [nx7 hv hck h345 h6 hbw hsg,if_pos hno]; exact chB_ne _),fun _=>Z⟩ (Bl _) (fun w h=>⟨Be,Be,tR⟩) (.inl Z)))))))))))))))
          ·have hyes:Ie rl c.author true:=Classical.byContradiction fun k=>by rw [hbad k] at h10; exact chB_ne _ h10
           obtain ⟨hn1,hn2,hn3,_⟩:=hok hyes
           subst hrl
           have hnx:nxE g c=0:=by rw [nx7 hv hck h345 h6 hbw hsg,if_neg (fun k=>k hyes)]
           refine Ah (qn (Ab (Aa (oj (mkF Z .nil (.cons Z .nil) (oj (Ak Z Z (on (qn (Ab (Aa (oj (A2 (o':=34) Z Z Dg Dl Z (oj (A4 Z Z Dl (fun w h=>Bc.at1 (Fg h).1 Z) (oj (call Z Z (.cons Z .nil) fb_59 (clone_mb g.mA g.ms.length g.mC g.ms Z (by omega))  (fun w h=>⟨(Gg h),tR⟩) ?_)))))))))))))))))
           rintro ⟨v116,e116⟩ ho116
           try dsimp only at ho116
           try dsimp only
           refine oj (mv Z Z (oj (Ce Z Z (.cons Z (.cons Z .nil)) fb_58 (del_mb (fun w=>Bc r3 c.segs 37 w∧CF1 c w∧True) v116 g.ms.length g.ms e116 ho116 Z (by omega) 55 [] [Bg r3 0] (chM c) fb_55 (fun x _=>next3_spec c hcl x r3)) (fun _=>.head) (fun _=>Z) (fun w h=>⟨⟨((Fg h).1),(Fh h),tR⟩,tR⟩) ?_)))
           rintro ⟨v118,e118⟩ ho118
           try dsimp only at ho118
           try dsimp only
           obtain ⟨ma,mc,rfl,hmc⟩:=ho118.shape'
           refine oj (A2 (o':=34) Z Z Dg Dl Z (oj (Cr Z Z Dl Z (.tail .head) (.tail (.tail (.tail (.head Z)))) Z (on (qn (Ab (Ab (Aa (oj (A2 (o':=35) Z Z Es Et Z (oj (A4 Z Z Et (fun w h=>Bc.at1 (Gg h).1 Z) (oj (Bn Z Z Tryz.underlying30 Z (oj (mv Z Z (on (qn (Ag (Aw (fun (sT:(Nat) × (List Mb) × (Nat) × (Option Addr) × (Nat) × (A9))=>(⟨sT.1≤c.ch.length∧sT.2.1=(g.ms.filter fun m=>!chM c m)++((c.ch.take sT.1).filter fun y=>decide (y.k≠2)).map (nwM c)∧Own 45 3 (.slice sT.2.2.2.1 sT.2.2.1 sT.2.2.2.2.1) sT.2.2.1 (sT.2.1.flatMap Mb.cells) sT.2.2.2.2.2∧sT.2.2.1=sT.2.1.length,[(3,Bg r3 0),(4,Bg r4 0),(121,.slice c.cA c.ch.length c.cC),(122,iv c.ch.length),(123,iv (sT.1:Int))],[sT.2.2.2.2.2,bx r4 (grp g.folder c.epoch (cid c) sT.2.2.2.1 sT.2.2.1 sT.2.2.2.2.1 na2 nl.length nc2) 29],fun w=>CF1 c w∧CF2 c w∧CF3 c w∧CF4 c w∧CF5 c w∧CF6 c w∧Tr.F ⟨nl,na2,nc2⟩ w∧Bc r3 c.segs 37 w∧True,c.ch.length-sT.1⟩:Hd)) (0,_,_,_,_,_) (⟨Nat.zero_le _,by simp,ho118,Z⟩) (⟨Z,Z,Z,Z,Z,tR⟩) (.refl _) (fun w h=>⟨(Ev h),(Jr h),(Ij h),(pQ15 h),(pQ16 h),(pQ17 h),(h.2.2.1.1),((Gg h).1),tR⟩) ?_))))))))))))))))))))
           rintro ⟨i,us,n,va,vc,en⟩ ⟨hi,hus,ho,hn⟩
           try dsimp only
           try dsimp only at hi hus ho hn
           refine Ab (Aa (oj (Dd Z Z Z (on (qn (Ab ?_))))))
           refine A8 Z (fun ht=>?_) (fun hf=>?_)
           ·obtain ⟨x,hx⟩:∃ x,c.ch[i]? = some x:=⟨_,List.getElem?_eq_getElem (by omega)⟩
            have hul:us.length≤20000:=by
             rw [hus,List.length_append,List.length_map]
             have h1:=List.length_filter_le (fun m=>!chM c m) g.ms
             have h2:=List.length_filter_le (fun y:Chg=>decide (y.k≠2)) (c.ch.take i)
             rw [List.length_take] at h2
             omega
            refine Ah (qn (Ab (Ag (Ab (Aa (oj (Fc Z Z Z Tryz.underlying30 Cp (by omega) (fun w h=>Sl.some (h.1) (by omega)) (oj (D4 Z Z Cp Z (fun w h=>Cv (h.1) (by decide) (fun _=>Z) hx) (Ac (d:=126) (v:=av x.segs) Z Z (oj (C7 Z Fv (fun r12=>(oj (C0 Z Z Cp Z Z .head (on (qn (Ab (Aa (oj (A2 (o':=0) Z Z F0 Ai Z ?_)))))))))))))))))))))
            refine oj (Bh Z Z Ai (.head _) (Z) (oj (G2 Z Z Z (on (qn ?_)))))
            refine C5 Z (fun g1=>?_) (fun g1=>?_)
            ·refine Aa (oj (A2 (o':=34) Z Z Dg Dl Z (oj (Bh Z Z Dl (.tail _ (.tail _ (.head _))) (Z) (oj (A2 (o':=1) Z Z Ds Ai Z (oj (Bh Z Z Ai (.head _) (Z) (oj (A2 (o':=1) Z Z Fj Ai Z (oj (A4 Z Z Ai (fun w h=>Bc.at1 (Fg h) Z) (oj (A2 (o':=3) Z Z H6 Ai Z (oj (Bh Z Z Ai (.head _) (Z) (oj (bld Z lay_45 (Ch Z Z (.head Z) (Ch Z Z (.tail (.head Z)) (Ch Z Z (.tail (.tail (.head Z))) .nil))) (oj (F7 Z Tryz.underlying24 Dk zok_45 (.agg (s:=Fr 3 (nwM c x).cells) Z .nil) (by repeat (first | exact List.forall_mem_nil _ | refine List.forall_mem_cons.2 ⟨rfl,?_⟩)) Z (by decide) Z (fun r139=>?_)))))))))))))))))))))
             refine Al (Am 0 _ _ Z) ?_
             try dsimp only [List.eraseIdx]
             refine oj (Ku Z Z Z el_24 (by kernel_rfl) ho (i:=1) Z (fun w ho h=>Bc.src (h.1.1) Z) (by omega) (by simp only [maxLen]; omega) (fun v140 e140 ho140=>?_))
             try dsimp only [List.set]
             obtain ⟨va140,vc140,hv140,hc140⟩:=ho140.shape'
             subst hv140
             exact oj (A2 (o':=34) Z Z Dg Dl Z (oj (Cr Z Z Dl Z (.tail (.tail .head)) (.tail (.tail (.tail (.head Z)))) Z (on (bn (qn (Aa (oj (add Z Z Z (by omega) (oj (mv Z Z (on (qn (Ar (i+1,us++[nwM c x],n+1,va140,vc140,e140) (by dsimp only; omega) (⟨by (try dsimp only); omega,by (try dsimp only); rw [A7 hx,List.filter_append,List.map_append,← List.append_assoc,← hus]; simp [g1],by (try dsimp only); rw [Dj]; exact ho140,by (try dsimp only); rw [List.length_append,hn]; rfl⟩) (⟨Z,Z,Z,Z,Z,tR⟩) (.cons _ (.refl _)) (fun w h=>⟨(h.2.1),(h.2.2.1),(Cu h),(Dw h),(Ez h),(Ec h),(Fg h),(Gg h),tR⟩)))))))))))))))
            ·exact Ah (bn (qn (Aa (oj (add Z Z Z (by omega) (oj (mv Z Z (on (qn (Ar (i+1,us,n,va,vc,en) (by dsimp only; omega) (⟨by (try dsimp only); omega,by (try dsimp only); rw [A7 hx,List.filter_append,List.map_append,← List.append_assoc,← hus]; simp [g1],ho,hn⟩) (⟨Z,Z,Z,Z,Z,tR⟩) (.cons _ (.refl _)) (fun w h=>⟨(h.1),(h.2.1),(h.2.2.1),(Cu h),(Dw h),(Ez h),(Ec h),(Fg h),tR⟩)))))))))))
           ·have h4:i=c.ch.length:=by omega
            subst h4
            rw [List.take_length] at hus
            have hul:us.length≤20000:=by
             rw [hus,List.length_append,List.length_map]
             have h1:=List.length_filter_le (fun m=>!chM c m) g.ms
             have h2:=List.length_filter_le (fun y:Chg=>decide (y.k≠2)) c.ch
             omega
            refine A1 (qe (qe (be (qn (Ab (Aa (oj (A2 (o':=34) Z Z Dg Dl Z (oj (Bh Z Z Dl (.tail _ (.head _)) (Z) (oj (Ce Z Z (.cons Z (.cons Z .nil)) fb_60 (sort_mb (.slice va n vc) n us en ho hn.symm (by omega)) (fun _=>.head) (fun _=>Z) (fun w h=>tR) ?_))))))))))))
            rintro ⟨e145,zs⟩ ⟨hzp,hzs,hoz⟩
            try dsimp only at hzp hzs hoz
            try dsimp only
            refine on (qn (Ab (Aa (oj (Eb Z Z B4 (.tail _ (.head _)) Z (oj (C0 Z Z B4 Z Z (.tail .head) (oj (Ak Z Z (on (qn (Af ?_))))))))))))
            have hzc:n≤vc:=by
             obtain ⟨_,_,e,h⟩:=hoz.shape'
             cases e
             exact h
            have hzl:=hzp.length_eq
            have hzn:zs.length=n:=by omega
            refine By (i:=0) Z hoz (Do (fun _=>Z) _) ?_
            try dsimp only [List.eraseIdx]
            exact As ⟨g.folder,c.epoch,cid c,zs,va,vc,⟨nl,na2,nc2⟩⟩ Z (.cellW Z B4 (.head _) Z (.tmp Z .nil)) (by rw [hnx]; show Value.tuple #[av (grp g.folder c.epoch (cid c) va n vc na2 nl.length nc2),iv 0]=Value.tuple #[av (grp g.folder c.epoch (cid c) va zs.length vc na2 nl.length nc2),iv 0]; rw [hzn]) ⟨fun _=>⟨Z,Z,Z,hn1,hn2,by (try dsimp only at hn3 hrn); (try dsimp only); omega,by (try dsimp only); unfold nmL; rw [← hus]; exact hzp,hzs,by (try dsimp only); omega⟩,fun h=>absurd hnx h⟩ (Bl _) (fun w h=>⟨(by show Sl 3 zs.length _ (.slice va zs.length vc) _; rw [hzn]; exact (h.1.1)),(Gg h),tR⟩) (.inl Z)
open Classical in
noncomputable def cbB (c:Cm):List UInt8:=if CkP c then enc (.list (Cb c)) else []
theorem cbB_ok {c:Cm} (h:CkP c):cbB c=enc (.list (Cb c)):=by unfold cbB; rw [if_pos h]
theorem cbB_bad {c:Cm} (h : ¬ CkP c):cbB c=[]:=by unfold cbB; rw [if_neg h]
theorem cenc_spec (c:Cm) (hc:CmOk c) (hbl:∀ x∈c.bx,x.b.length≤1000000000) (hwl:∀ x∈c.wl,x.b.length≤1000000000):Ay Tryz.prog 14 [av c.segs] [] (fun w=>CF1 c w∧CF2 c w∧CF3 c w∧CF4 c w∧CF5 c w∧CF6 c w∧True) (fun x:Option Addr × Nat=>⟨(cbB c).length≤x.2,.tuple #[.slice x.1 (cbB c).length x.2,iv (ckE c)],[],fun w=>Sl 1 (cbB c).length (An (cbB c)) (.slice x.1 (cbB c).length x.2) w∧True⟩):=by
 refine Aj Tryz.func14 Z Z fun X w0=>?_
 have hdep:=I7 c
 refine Ab (Aa (oj (C6 Z Z (fun r1=>(Al (Am 0 _ _ Z) ?_)))))
 try dsimp only [List.eraseIdx]
 refine oj (Ak Z Z (oj (Ak Z Z (on (qn (Ab (Ab (Aa (oj (Bx Z Z Bk (fun w h=>h.1.1) Z (oj (Ao Z Z (.cons Z .nil) fb_15 (kcheck_spec c hc.b hbl hwl)  (fun w h=>⟨(h.2.1),(h.2.2.1),(Cu h),(Ez h),tR⟩) Z (fun _=>(Ae (fun w h=>h.2) (oj (Ak Z Z (on (qn (Ab (Aa (oj (mv Z Z ?_))))))))))))))))))))))
 refine oj (G2 Z Z Z (on (qn ?_)))
 refine C5 Z (fun h1=>?_) (fun h1=>?_)
 ·refine Ab (Aa (oj (mv Z Z (oj (Ak Z Z (oj (Ak Z Z (on (qn (Af (qr ?_)))))))))))
  have hcb:=cbB_bad (fun k=>h1 (ckE_iff.2 k))
  exact As (none,0) Z (.tmp Z (.tmp Z .nil)) (by rw [hcb]; rfl) (by rw [hcb]; exact Nat.le_refl _) .slnil (fun w h=>(by rw [hcb]; exact ⟨Be,trivial⟩)) (.inl Z)
 ·have hck:=ckE_iff.1 h1
  have hcb:=cbB_ok hck
  refine Ah (qn (Ab (Aa (oj (Bx Z Z Bk (fun w h=>h.1.1) Z (oj (call Z Z (.cons Z .nil) fb_65 (Gr c hc.b)  (fun w h=>⟨(h.2.1),(h.2.2.1),(Cu h),(Dw h),(Ez h),(Ec h),tR⟩) ?_)))))))
  rintro ⟨rv,av4,cv4⟩ ⟨g1,g2,g3⟩
  try dsimp only at g1 g2 g3
  try dsimp only
  refine oj (Ao Z Z (.cons Z .nil) fb_64 (Gb rv av4 11 cv4 g2)  (fun w h=>tR) Z (fun _=>(Ae (fun w h=>h.2) (oj (call Z Z (.cons Z .nil) fb_63 (encode_spec (.list rv av4 cv4) (by show _∧_; rw [g1]; exact ⟨by have:=congrArg List.length g1; rw [Cz,List.length_map,g2] at this; rw [← this]; decide,hc.ok⟩) (by show Gc (vals rv)+1≤16; rw [g1]; omega) (by show (enc (.list (vals rv))).length≤_; rw [g1]; have:=hc.len; omega))  (fun w h=>⟨⟨(by rw [g2]; exact (h.1.1)),(h.1.2.1)⟩,tR⟩) ?_)))))
  rintro ⟨ea,ec⟩ hec
  try dsimp only at hec
  try dsimp only
  have hev:enc (RV.val (.list rv av4 cv4))=cbB c:=by rw [hcb]; show enc (.list (vals rv))=_; rw [g1]
  rw [hev] at hec
  exact oj (ext Z Z Z (oj (ext Z Z Z (oj (Ak Z Z (oj (Ak Z Z (on (qn (Af (As (ea,ec) Z (.tmp Z (.tmp Z .nil)) (by rw [h1,← hev]; rfl) hec .slnil (fun w h=>(by rw [← hev]; exact ⟨(h.1.1),trivial⟩)) (.inl Z))))))))))))
abbrev rdE (q:Nat) (a:Option Addr) (n c:Nat):A9:=bx q [S1 (.slice a n c)] 134
abbrev rdF (a:Option Addr) (c:Nat) (bs:List UInt8):World→Prop:=Sl 1 bs.length (An bs) (.slice a bs.length c)
theorem rd_head {a:Option Addr} {c:Nat} {xs rest:List UInt8} {w:World} (h:rdF a c (xs++rest) w):rdF (if xs.length=0 then a else a.map (·.add (0*1))) xs.length xs w:=by
 have:=Sl.part h (l':=0) (h:=xs.length) (m:=xs.length) (Nat.zero_le _) (by simp) (Nat.le_refl _)
 have e:((An (xs++rest)).drop (0*1)).take ((xs.length-0)*1)=An xs:=by
  rw [Cs,Nat.zero_mul,List.drop_zero,Nat.sub_zero,Nat.mul_one]
  exact List.take_left' (Br _)
 rw [e] at this
 exact this
theorem rd_tail {a:Option Addr} {c:Nat} {xs rest:List UInt8} {w:World} (h:rdF a c (xs++rest) w):rdF (if c=xs.length then a else a.map (·.add (xs.length*1))) (c-xs.length) rest w:=by
 obtain ⟨_,_,e0,hc,_⟩:=h.shape
 cases e0
 have:=Sl.part h (l':=xs.length) (h:=(xs++rest).length) (m:=c) (by simp) (Nat.le_refl _) hc
 have e:((An (xs++rest)).drop (xs.length*1)).take (((xs++rest).length-xs.length)*1)=An rest:=by
  rw [Cs,Nat.mul_one,Nat.mul_one,List.drop_left' (Br _),List.length_append,Nat.add_sub_cancel_left]
  exact List.take_of_length_le (by rw [Br]; exact Nat.le_refl _)
 rw [e] at this
 have e2:(xs++rest).length-xs.length=rest.length:=by rw [List.length_append,Nat.add_sub_cancel_left]
 rw [e2] at this
 exact this
theorem F8 (v:Value):Ay Tryz.prog 76 [v,.bool true] [] (fun _=>True) (fun _:Unit=>⟨True,.tuple #[],[],fun _=>True⟩):=by
 exact Aj Tryz.func76 Z Z fun X w0=>(Ab (Aa (oj (mv Z Z (oj (not Z Z (on (qn (Ap Z (fun ht=>absurd ht (by simp)) (fun hf=>(Ah (As () Z .nil Z tR .slnil (fun w h=>tR) (.inr Z)))))))))))))
theorem Kd (q:Nat) (a:Option Addr) (c:Nat) (xs rest:List UInt8) (hl:(xs++rest).length≤1000000000000):Ay Tryz.prog 150 [Bg q 0,iv xs.length] [rdE q a (xs++rest).length c] (fun w=>rdF a c (xs++rest) w∧True) (fun x:Option Addr × Option Addr × Nat=>⟨rest.length≤x.2.2,.slice x.1 xs.length xs.length,[rdE q x.2.1 rest.length x.2.2],fun w=>rdF x.1 xs.length xs w∧rdF x.2.1 x.2.2 rest w∧True⟩):=by
 refine Aj Tryz.func150 Z Z fun X w0=>?_
 have hlx:(xs++rest).length=xs.length+rest.length:=List.length_append
 refine Iv (fun w h=>Sl.shape h.1) ?_
 rintro ⟨_,_,e0,hcap,_⟩
 cases e0
 refine Ab (Aa (oj (Ak Z Z (on (qn (Ab (Aa (oj (mv Z Z (oj (mv Z Z (oj (mv Z Z (oj (Cq Z Z (oj (A2 (o':=0) Z Z I6 Bt Z (oj (Bh Z Z Bt (.head _) (Z) (oj (Bn Z Z Tryz.underlying53 Z (oj (lei Z Z Z (Ac (d:=13) (v:=.bool true) Z (by simp; omega) ?_))))))))))))))))))))))))
 refine oj (Ao Z Z (.cons Z (.cons Z .nil)) fb_76 (F8 (Bg q 0))  (fun w h=>tR) Z (fun _=>(Ae (fun w h=>h.2) (on (qn (Ab (Aa (oj (mv Z Z (oj (Cq Z Z (oj (A2 (o':=0) Z Z I6 Bt Z (oj (Bh Z Z Bt (.head _) (Z) (oj (mv Z Z (oj (mv Z Z (oj (slc (h:=xs.length) (m:=xs.length) Z Z Tryz.underlying53 Bv ⟨_,Z,by omega⟩ ⟨_,Z,by omega⟩ (.inr (by simp)) Z (Ac (d:=21) (v:=.slice (if xs.length=0 then a else a.map (·.add (0*1))) xs.length xs.length) Z (Z) (oj (Ak Z Z (on ?_)))))))))))))))))))))))))
 refine qn (Ab (Aa (oj (mv Z Z (oj (mv Z Z (oj (Cq Z Z (oj (A2 (o':=0) Z Z I6 Bt Z (oj (Bh Z Z Bt (.head _) (Z) (oj (mv Z Z (oj (slc (l':=xs.length) Z Z Tryz.underlying53 Bv Z Z (.inl Z) ⟨_,Z,by omega⟩ (Ac (d:=28) (v:=.slice (if c=xs.length then a else a.map (·.add (xs.length*1))) rest.length (c-xs.length)) Z (by rw [hlx,Nat.add_sub_cancel_left]) (oj (Cq Z Z (oj (A2 (o':=0) Z Z I6 Bt Z (oj (Cr Z Z Bt Z .head (.head Z) Z (on (qn ?_)))))))))))))))))))))))))
 exact Ab (Aa (oj (mv Z Z (oj (Ak Z Z (on (qn (Af (As (_,_,_) Z (.tmp Z .nil) Z (by (try dsimp only); omega) (.refl _) (fun w h=>⟨rd_head (h.1),rd_tail (h.1),tR⟩) (.inl Z))))))))))
end Go.Chx
