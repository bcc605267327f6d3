/- Part of the proof that the law CommitsMembers holds. -/
import Derived.Test.YtegbaopejhpnkaaGreatDoorAa
import Derived.Test.YtegbaopejhpnkaaGreatDoorAh
import Derived.Test.YtegbaopejhpnkaaGreatDoorAz
import Derived.Test.YtegbaopejhpnkaaGreatDoorBa
import Derived.Test.YtegbaopejhpnkaaGreatDoorBf
import Derived.Test.YtegbaopejhpnkaaGreatDoorBg
namespace Go.Chx
open Go Go.Proofs
set_option maxHeartbeats 1000000
set_option maxRecDepth 4000
theorem pu_at {d:Int} (a:Int) (h0:0≤d) (h1:d < 512) (ha:1≤a) (hb:a≤1000000):puV (a+d)=Iz (a+d):=by unfold puV; rw [if_pos (kv_iff.2 ⟨by omega,by omega⟩)]
def kD (n:UInt8):Dig:=⟨n::List.replicate 31 0,rfl⟩
theorem cmb_small {c:Cm} (h1:c.ch.length≤10) (h2:c.path.length≤12) (h3:c.bx.length≤511) (h4:c.wl.length≤64):CmB c:=⟨by omega,by omega,by omega,by omega⟩
theorem cZ_ok:CmOk cZ:=CmI.ok (B:=0) ⟨by unfold i64; decide,by unfold i64; decide,by unfold i64; decide,by unfold i64; decide,by unfold i64; decide,fun x hx=>(List.not_mem_nil hx).elim,fun x hx=>(List.not_mem_nil hx).elim,fun x hx=>(List.not_mem_nil hx).elim,fun x hx=>(List.not_mem_nil hx).elim⟩ (by omega) (cmb_small (by decide) (by decide) (by decide) (by decide))
theorem cZ_bad : ¬ CkP cZ:=fun h=>absurd h.e0 (by decide)
structure SaneC (c:Cm):Prop where
 m:MkX (gN 3) 4 104 [C9 4,C9 7] (kD 1) (kD 2) (kD 3) c (Ei (gN 3) (kD 1) (kD 2))
theorem SaneC.ok {c:Cm} (h:SaneC c):CmOk c∧CkP c∧nxE (gN 3) c=0∧c.bx.length=1∧c.wl.length=1∧(∀ x∈c.bx,x.b.length≤1000000000)∧(∀ x∈c.wl,x.b.length≤1000000000)∧(enc (.list (Cb c))).length≤1000000:=by
 have hm:=h.m.toMk
 have h1:=hm.cmok mk_3
 have h2:=hm.toMk0.ck mk_3
 have h3:c.bx.length=1:=by rw [hm.bl,nd_sane2]; rfl
 have h4:c.wl.length=1:=by rw [hm.toMk0.wll,wc_sane]; rfl
 have h5:∀ x∈c.bx,x.b.length≤48:=fun x hx=>by obtain ⟨_,_,_,_,_,e⟩:=hm.toMk0.bxi hx; omega
 have h6:∀ x∈c.wl,x.b.length≤48:=fun x hx=>by have:=(hm.wb x hx).2; omega
 refine ⟨h1,h2,hm.next mk_3,h3,h4,fun x hx=>by have:=h5 x hx; omega,fun x hx=>by have:=h6 x hx; omega,?_⟩
 have h7:=cm_size h1.ok h5 h6
 have h8:=h2.pl
 have h9:c.ch.length=2:=by rw [hm.chs]; rfl
 rw [h3,h4,h8,h9] at h7
 omega
theorem add_spec (d:Int) (h0:0≤d) (h1:d < 512):Ay Tryz.prog 42 [iv d] [] (fun _=>True) (fun _:Unit=>⟨True,av (C9 d).segs,[],fun _=>True⟩):=by
 refine Aj Tryz.func42 Z Z fun X w0=>(Ab (Aa (oj (C7 Z Fv (fun r2=>(on (qn (Ab (Aa (oj (mv Z Z (oj (add Z Z Z (by omega) (oj (Ao Z Z (.cons Z .nil) fb_25 (J0 (1000+d))  (fun w h=>tR) Z (fun _=>(Ae (fun w h=>h.2) (oj (mv Z Z (oj (ext Z Z Z (Ac (d:=11) (v:=iv (Iz (1000+d))) Z (by rw [pu_at 1000 h0 h1 (by omega) (by omega)]; rfl) (oj (ext Z Z Z ?_))))))))))))))))))))))))
 refine oj (Ak Z Z (oj (Ak Z Z (on (qn (Ab (Aa (oj (mv Z Z (oj (add Z Z Z (by omega) (oj (Ao Z Z (.cons Z .nil) fb_25 (J0 (100+d))  (fun w h=>tR) Z (fun _=>(Ae (fun w h=>h.2) (oj (mv Z Z (oj (ext Z Z Z (Ac (d:=17) (v:=iv (Iz (100+d))) Z (by rw [pu_at 100 h0 h1 (by omega) (by omega)]; rfl) (oj (ext Z Z Z (oj (Ak Z Z (oj (Ak Z Z ?_))))))))))))))))))))))))))
 exact on (qn (Ab (Aa (oj (mv Z Z (oj (mv Z Z (oj (mv Z Z (oj (bld Z lay_49 (Ch Z Z (.head Z) (Ch Z Z (.tail (.head Z)) (Ch Z Z (.tail (.tail (.head Z))) (Ch Z Z (.tail (.tail (.tail (.head Z)))) .nil)))) (oj (C0 Z Z Cp Z Z .head (on (qn (Af (As () Z (.cellW Z Cp (.head _) Z .nil) Z tR (Bl _) (fun w h=>tR) (.inl Z))))))))))))))))))
theorem sane_spec  : Ay Tryz.prog 8 [] [] (fun w=>De 1 (Av .u32 B9) w∧De 3 (Av .u32 D1) w∧De 6 (Av .u32 E7) w∧De 0 (labs.map fun s=>.string (Iq s)) w∧True) (fun _:Unit=>⟨True,.bool true,[],fun _=>True⟩):=by
 refine Aj Tryz.func8 Z Z fun X w0=>(Ab (Aa (oj (Ak Z Z (on (qn (Ab (Aa (oj (bld Z lay_29 (Ch Z Z (.head Z) .nil) (oj (C7 Z zok_29 (fun r1=>(oj (C0 Z Z B4 Z Z .head (on (qn (Ab (Cn (l':=[bx r1 (gN 3).segs 29]) (.refl _) (cj_drawN mo ?_))))))))))))))))))))
 refine dj_edge 14 10 Z (by kernel_rfl) (dj_edge 14 11 Z (by kernel_rfl) (dj_freesX [0,1,2,4,5,6,3,7,8,9,10,11] (fun j=>Nat.beq j 3 || Nat.beq j 7) [12,13] (fun f r=>cond (Nat.beq f 12) (bx r z_37 37) (bx r z_67 67)) (fun r=>[bx (r 12) z_37 37,bx (r 13) z_67 67]) (fun r=>[(2,Bg (r 12) 0),(3,Bg (r 13) 0)]) Z Z (by kernel_rfl) Z Z (mem2 (fun L J Q K R k=>C7 Z zok_37 (fun r=>Fp (Ae (fun w h=>⟨⟨tR,h.1⟩,h.2⟩) (k r tR)))) (fun L J Q K R k=>C7 Z Ge (fun r=>Fp (Ae (fun w h=>⟨⟨tR,h.1⟩,h.2⟩) (k r tR))))) (.det _ (fun Q K R m k=>(Eb Z Z B4 (.head _) Z k)) (.det _ (fun Q K R m k=>(Ao Z Z (.cons Z .nil) fb_42 (add_spec 4 (by omega) (by omega))  (fun w h=>tR) Z (fun _=>Ae (fun w h=>h.2) k))) (.det _ (fun Q K R m k=>(Ao Z Z (.cons Z .nil) fb_42 (add_spec 7 (by omega) (by omega))  (fun w h=>tR) Z (fun _=>Ae (fun w h=>h.2) k))) (.det (dv (kD 1)) (fun Q K R m k=>(bldA Z Tryz.underlying67 Bv zaok_67 Z (Ch Z Z (.head Z) .nil) (B8 (Z) k))) (.det (dv (kD 2)) (fun Q K R m k=>(bldA Z Tryz.underlying67 Bv zaok_67 Z (Ch Z Z (.head Z) .nil) (B8 (Z) k))) (.det (dv (kD 3)) (fun Q K R m k=>(bldA Z Tryz.underlying67 Bv zaok_67 Z (Ch Z Z (.head Z) .nil) (B8 (Z) k))) (.gh (γ:=Nat) (fun _=>True) _ _ _ Z (fun Q K R m k=>(F7 Z Tryz.underlying30 Cp Fv (.agg (s:=Fr 5 (C9 4).cells) Z (.agg (s:=Fr 5 (C9 7).cells) Z .nil)) (by repeat (first | exact List.forall_mem_nil _ | refine List.forall_mem_cons.2 ⟨rfl,?_⟩)) Z (by decide) Z (fun r27=>Al (.refl _) (Ae (fun w h=>⟨⟨h.1,h.2.1⟩,h.2.2⟩) (k r27 tR))))) (fun _=>by exact ⟨[],by simp⟩) ?_)))))))))
 rintro r27 _
 try dsimp only [List.nil_append,List.cons_append]
 refine .gh _ _ _ _ Z (fun Q K R m k=>call Z Z (.cons Z (.cons Z (.cons Z (.cons Z (.cons Z (.cons Z (.cons Z .nil))))))) fb_21 (make_spec (gN 3) (by decide) (by decide) (by decide) 4 104 (some ⟨r27,0,none⟩) 2 [C9 4,C9 7] (by decide) (kD 1) (kD 2) (kD 3))  (fun w h=>⟨Be,Be,Bc.rows (h.1.1.1) Z Z,(h.1.2.1),(h.1.2.2.1),(Cu h.1),(Dw h.1),tR⟩) (fun x hx=>Ae (fun w h=>⟨⟨h.1,h.2.1⟩,h.2.2⟩) (k x hx))) (fun _=>by exact ⟨[],by simp⟩) ?_
 rintro ⟨cm,sec⟩ ⟨hmk,_⟩
 try dsimp only at hmk
 try dsimp only [List.nil_append,List.cons_append]
 refine .det _ (fun Q K R m k=>(mv Z Z k)) (.det _ (fun Q K R m k=>(ext Z Z Z k)) (.det _ (fun Q K R m k=>(ext Z Z Z k)) (.det _ (fun Q K R m k=>(ext Z Z Z k)) (.nil ?_))))
 intro rF
 generalize rF 12=r2
 generalize rF 13=r3
 try dsimp only [List.nil_append,List.cons_append]
 refine Ad 14 ((C0 Z Z Bk Z Z (.tail .head) (Ad 15 ((Cf Z Z Bb Z (.tail (.tail .head)) (.head Z) Z (Ad 16 ((Ak Z Z (dj_endN (qn (Ab (Aa (Al (Am 1 _ _ Z) ?_)))))))))))))
 try dsimp only [List.eraseIdx]
 refine Al (Am 1 _ _ Z) ?_
 try dsimp only [List.eraseIdx]
 have hmx:=hmk (mdE_iff.2 mk_3)
 obtain rfl:sec=Ei (gN 3) (kD 1) (kD 2):=hmx.sec
 obtain ⟨hcok,hck,hnx,hbx1,hwl1,hbl,hwl,hsz⟩:=SaneC.ok ⟨hmx⟩
 have hcb:=cbB_ok hck
 refine oj (Eb Z Z B4 (.head _) Z (oj (Bx Z Z Bk (fun w h=>h.2.1.1) Z (oj (call Z Z (.cons Z (.cons Z .nil)) fb_11 (I3 (gN 3) cm (by decide) (by decide) (by decide) hcok hbl hwl)  (fun w h=>⟨Be,Be,(h.2.2.1.1),(h.2.2.1.2.1),(h.2.2.1.2.2.1),(h.2.2.1.2.2.2.1),(h.2.2.1.2.2.2.2.1),(h.2.2.1.2.2.2.2.2.1),(Dw h),(Ez h),tR⟩) ?_)))))
 rintro gx ⟨hnr,_⟩
 try dsimp only
 have hr:=hnr hnx
 have hms:=ms_sane hr hmx.toMk.chs
 refine oj (mv Z Z (oj (ext Z Z Z (oj (ext Z Z Z (Ac (d:=40) (v:=iv 0) Z (by show iv (nxE (gN 3) cm)=_; rw [hnx]) (oj (C7 Z zok_29 (fun r5=>(oj (C0 Z Z B4 Z Z .head (oj (Ak Z Z (on (qn (Ab (Aa (oj (bld Z lay_29 .nil (Ac (d:=42) (v:=av (gN 0).segs) Z (by rfl) (oj (Ao Z Z (.cons Z .nil) fb_42 (add_spec 4 (by omega) (by omega))  (fun w h=>tR) Z (fun _=>(Ae (fun w h=>h.2) (oj (F7 Z Tryz.underlying30 Cp Fv (.agg (s:=Fr 5 (C9 4).cells) Z .nil) (by repeat (first | exact List.forall_mem_nil _ | refine List.forall_mem_cons.2 ⟨rfl,?_⟩)) Z (by decide) Z (fun r44=>?_)))))))))))))))))))))))))))
 refine Al (Am 0 _ _ Z) ?_
 try dsimp only [List.eraseIdx]
 refine oj (bldA Z Tryz.underlying67 Bv zaok_67 Z (Ch Z Z (.head Z) .nil) (Ac (d:=45) (v:=dv (kD 1)) Z (by rfl) (oj (bdzA Z Tryz.underlying67 Bv Ge (Ac (d:=46) (v:=dv Dig.zero) Z (by rfl) (oj (bldA Z Tryz.underlying67 Bv zaok_67 Z (Ch Z Z (.head Z) .nil) (Ac (d:=47) (v:=dv (kD 3)) Z (by rfl) (oj (call Z Z (.cons Z (.cons Z (.cons Z (.cons Z (.cons Z (.cons Z (.cons Z .nil))))))) fb_21 (make_spec (gN 0) (by decide) (by decide) (by decide) 3 103 (some ⟨r44,0,none⟩) 1 [C9 4] (by decide) (kD 1) Dig.zero (kD 3))  (fun w h=>⟨Be,Be,Bc.rows (h.1.1) Z Z,(Ec h),(Fg h),(Gg h),(Io h),tR⟩) ?_))))))))))
 rintro ⟨c2,sec2⟩ _
 try dsimp only
 refine oj (mv Z Z (oj (ext Z Z Z (oj (ext Z Z Z (oj (ext Z Z Z (Ac (d:=51) (v:=iv 221) Z (by show iv (mdE (gN 0) 3 103 [C9 4])=_; have hb:=(nd_bad (gN_ok (f:=0) (by omega) (by omega)) ps_other).1; rw [md2 (by decide) (by rw [hb]; decide),hb]) (oj (C7 Z zok_37 (fun r7=>(oj (C7 Z Ge (fun r8=>(oj (C0 Z Z Bk Z Z (.tail .head) (oj (Cf Z Z Bb Z .head (.head Z) Z (oj (Ak Z Z (on (qn (Ab (Aa (oj (bld Z lay_29 .nil (Ac (d:=53) (v:=av (gN 0).segs) Z (by rfl) ?_)))))))))))))))))))))))))))
 refine oj (call Z Z (.cons Z (.cons Z (.cons Z .nil))) fb_37 (Iy (gN 0) 0 none 0 [] (by decide) (by decide) (by decide) (by decide))  (fun w h=>⟨Be,Be,Be,tR⟩) ?_)
 rintro ⟨n1,n2⟩ _
 try dsimp only
 refine oj (mv Z Z (oj (ext Z Z Z (oj (ext Z Z Z (Ac (d:=56) (v:=iv 221) Z (by show iv (ndE (gN 0) 0 [])=_; rw [(nd_bad (gN_ok (f:=0) (by omega) (by omega)) ps_nil).1]) (oj (Ak Z Z (oj (Ak Z Z (on (qn (Ab (Aa (oj (bld Z lay_29 .nil (Ac (d:=58) (v:=av (gN 0).segs) Z (by rfl) (oj (bld Z lay_37 .nil (Ac (d:=59) (v:=av cZ.segs) Z (by rfl) (oj (call Z Z (.cons Z (.cons Z .nil)) fb_11 (I3 (gN 0) cZ (by decide) (by decide) (by decide) cZ_ok (fun x hx=>(List.not_mem_nil hx).elim) (fun x hx=>(List.not_mem_nil hx).elim))  (fun w h=>⟨Be,Be,Be,Be,Be,fun b hb=>(List.not_mem_nil hb).elim,Be,fun b hb=>(List.not_mem_nil hb).elim,(Gg h),(Io h),tR⟩) ?_))))))))))))))))))))))
 rintro gy _
 try dsimp only
 refine oj (mv Z Z (oj (ext Z Z Z (oj (ext Z Z Z (Ac (d:=62) (v:=iv 220) Z (by show iv (nxE (gN 0) cZ)=_; rw [nx2 (gN_ok (f:=0) (by omega) (by omega)) cZ_bad]) (oj (C7 Z zok_29 (fun r12=>(oj (C0 Z Z B4 Z Z .head (oj (Ak Z Z (on (qn (Ab (Aa (oj (Bx Z Z Bk (fun w h=>(Ec h).1) Z (oj (call Z Z (.cons Z .nil) fb_14 (cenc_spec cm hcok hbl hwl)  (fun w h=>⟨((Fg h).1),((Fg h).2.1),((Fg h).2.2.1),((Fg h).2.2.2.1),((Fg h).2.2.2.2.1),((Fg h).2.2.2.2.2.1),tR⟩) ?_)))))))))))))))))))))
 rintro ⟨ea,ec⟩ hec
 try dsimp only at hec
 try dsimp only
 refine oj (mv Z Z (oj (ext Z Z Z (Ac (d:=66) (v:=.slice ea (enc (.list (Cb cm))).length ec) Z (by rw [← hcb]; rfl) (oj (ext Z Z Z (Ac (d:=67) (v:=iv 0) Z (by show iv (ckE cm)=_; rw [ckE_ok hck]) (oj (Ak Z Z (oj (Ak Z Z (on (qn (Ab (Aa (oj (mv Z Z (oj (call Z Z (.cons Z .nil) fb_16 (cdecode_spec cm hcok hck hbl hwl hsz ea ec)  (fun w h=>⟨(by rw [← hcb]; exact (h.1.1)),tR⟩) ?_)))))))))))))))))))
 rintro dm hsm
 try dsimp only
 have hdok:=hsm.ok hcok
 refine oj (mv Z Z (oj (ext Z Z Z (oj (ext Z Z Z (oj (C7 Z zok_37 (fun r16=>(oj (C0 Z Z Bk Z Z .head (oj (Ak Z Z (on (qn (Ab (A5 mo (A3 [0,1,2] (fun j=>Nat.beq j 2) (by kernel_rfl) Z Z (.det _ (fun Q K R m k=>(Eb Z Z B4 (.tail _ (.tail _ (.tail _ (.tail _ (.tail _ (.head _)))))) Z k)) (.det _ (fun Q K R m k=>(Ao Z Z (.cons Z .nil) fb_42 (add_spec 4 (by omega) (by omega))  (fun w h=>tR) Z (fun _=>Ae (fun w h=>h.2) k))) (.gh (γ:=Nat) (fun _=>True) _ _ _ Z (fun Q K R k=>(F7 Z Tryz.underlying30 Cp Fv (.agg (s:=Fr 5 (C9 4).cells) Z .nil) (by repeat (first | exact List.forall_mem_nil _ | refine List.forall_mem_cons.2 ⟨rfl,?_⟩)) Z (by decide) Z (fun r76=>Al (.refl _) (Ae (fun w h=>⟨⟨h.1,h.2.1⟩,h.2.2⟩) (k r76 tR))))) (fun _=>by exact ⟨[],by simp⟩) ?_))))))))))))))))))))
 rintro r76 _
 try dsimp only [List.nil_append,List.cons_append]
 refine .nil (Ad 3 ((call Z Z (.cons Z (.cons Z (.cons Z .nil))) fb_37 (Iy (gN 3) 4 (some ⟨r76,0,none⟩) 1 [C9 4] (by decide) (by decide) (by decide) (by decide))  (fun w h=>⟨Be,Be,Bc.rows (h.1.1) Z Z,tR⟩) ?_)))
 rintro ⟨ba,bc⟩ _
 try dsimp only
 refine Ad 4 ((mv Z Z (kj_del [18] (A3 [5,6,7] (fun _=>false) (by kernel_rfl) Z Z (.det _ (fun Q K R m k=>(ext Z Z Z k)) (.det _ (fun Q K R m k=>(ext Z Z Z k)) (.det _ (fun Q K R m k=>(Ak Z Z k)) (.nil (Ad 8 ((Ak Z Z (A6 (qn (Ab (Aa (oj (bldA Z Tryz.underlying67 Bv zaok_67 Z (Ch Z Z (.head Z) .nil) (Ac (d:=80) (v:=dv (kD 1)) Z (by rfl) ?_))))))))))))))))))
 refine oj (call Z Z (.cons Z .nil) fb_23 (ladder_spec (kD 1))  (fun w h=>⟨(Jr h),(Ij h),tR⟩) ?_)
 rintro ⟨la,lc⟩ hlc
 try dsimp only at hlc
 try dsimp only
 refine oj (Ak Z Z (on (qn (Ab (A5 mo (Ad 0 ((mv Z Z (Ad 1 ((Eu Z Z Z (Ac (d:=83) (v:=.bool true) Z (by congr 1; simp [mdE_iff.2 mk_3]) (Ad 2 ((mv Z Z (Ad 3 ((gt Z Z Z (mv Z Z (Ad 4 ((gt Z Z Z (Eu Z Z Z ?_)))))))))))))))))))))))
 refine Ac (d:=86) (v:=.bool true) Z (Z) (Ad 5 ((Cl Z Z Z (Ad 6 ((mv Z Z (Ad 7 ((gt Z Z Z (A2 (o':=1) Z Z F3 Ai Z (Ad 8 ((gt Z Z Z (Bh Z Z Ai (.tail _ (.tail _ (.tail _ (.tail _ (.head _))))) (Z) (Ad 9 ((gt Z Z Z (Eu Z Z Z (Ac (d:=91) (v:=.bool true) Z (by congr 1; simp [hr.ep,hmx.toMk.ep]; rfl) (Ad 10 ((Cl Z Z Z (Ad 11 ((mv Z Z ?_)))))))))))))))))))))))))
 refine Ad 12 ((gt Z Z Z (A2 (o':=0) Z Z fld_29_0 Ai Z (Ad 13 ((gt Z Z Z (Bh Z Z Ai (.tail _ (.tail _ (.tail _ (.tail _ (.head _))))) (Z) (Ad 14 ((gt Z Z Z (Eu Z Z Z (Ac (d:=96) (v:=.bool true) Z (by congr 1; simp [hr.fo]; rfl) (Ad 15 ((Cl Z Z Z (Ad 16 ((mv Z Z (Ad 17 ((gt Z Z Z (A2 (o':=34) Z Z Dg Dl Z (Ad 18 ((gt Z Z Z (Bh Z Z Dl (.tail _ (.tail _ (.tail _ (.tail _ (.head _))))) (Z) (Ad 19 ?_)))))))))))))))))))))))))))
 refine (gt Z Z Z (Bn Z Z Tryz.underlying24 Z (Ad 20 ((gt Z Z Z (Eu Z Z Z (Ac (d:=102) (v:=.bool true) Z (by congr 1; simp [hms]) (Ad 21 ((Cl Z Z Z (Ad 22 ((mv Z Z (Ad 23 ((gt Z Z Z (A2 (o':=34) Z Z Dg Dl Z (Ad 24 ((gt Z Z Z (Bh Z Z Dl (.tail _ (.tail _ (.tail _ (.tail _ (.head _))))) (Z) (Ad 25 ((gt Z Z Z (Fc Z Z Z Tryz.underlying24 Dk (by rw [hms]; exact ⟨by decide,by show (1:Int) < 2; decide⟩) (fun w h=>Sl.some ((Io h).1) (by rw [hms]; exact Nat.zero_lt_two)) (Ad 26 ((gt Z Z Z (fadO Z Z fld_45_0 Ai (fun w h=>by obtain ⟨b,hb⟩:=Sl.some ((Io h).1) (by rw [hms]; exact Nat.zero_lt_two); exact ⟨_,by rw [hb]; rfl⟩) ?_)))))))))))))))))))))))))))))
 refine Ad 27 ?_
 refine (gt Z Z Z (A4 Z Z Ai (fun w h=>(by have hq:=(Cv ((Io h).1) (by decide) (fun _=>rfl) (i:=1) (x:=(⟨7,cm.epoch,(C9 7).v⟩:Mb)) (by rw [hms]; rfl)).fld (o:=0) (v:=iv 7) rfl; revert hq; cases gx.mA <;> exact id)) (Ad 28 ((gt Z Z Z (Eu Z Z Z (Ac (d:=110) (v:=.bool true) Z (Z) (Ad 29 ((Cl Z Z Z (Ad 30 ((mv Z Z (A3 [31,32,33,34] (fun _=>false) (by kernel_rfl) Z Z (.det _ (fun Q K R m k=>(gt Z Z Z (A2 (o':=2) Z Z fld_29_2 Dc Z k))) (.det (dv gx.last) (fun Q K R m k=>(gt Z Z Z (Js Z Z Dc (.tail _ (.tail _ (.tail _ (.tail _ (.head _))))) Z Z (B8 (Z) k)))) (.det _ (fun Q K R m k=>(gt Z Z Z (Bx Z Z Bk (fun w h=>(Fh h.1).1) Z k))) (.det _ (fun Q K R m k=>(gt Z Z Z (Ao Z Z (.cons Z .nil) fb_19 (cid_spec cm hcok)  (fun w h=>⟨((Ev h.1).1),((Ev h.1).2.1),((Ev h.1).2.2.1),((Ev h.1).2.2.2.1),((Ev h.1).2.2.2.2.1),((Ev h.1).2.2.2.2.2.1),(Ij h.1),(pQ15 h.1),tR⟩) Z (fun _=>Ae (fun w h=>h.2) k)))) (.nil (Ad 35 (Ac (d:=114) (v:=.agg (Av .u8 (gx.last.b.map fun b=>(b.toNat:Int))).toArray) Z (by show Value.agg (An gx.last.b).toArray=_; rw [D9]) ?_)))))))))))))))))))))
 refine Ac (d:=116) (v:=.agg (Av .u8 ((cid cm).b.map fun b=>(b.toNat:Int))).toArray) Z (by show Value.agg (An (cid cm).b).toArray=_; rw [D9]) ((gt Z Z Z (eqa (k:=.u8) (xs:=(gx.last.b.map fun b=>(b.toNat:Int))) (ys:=((cid cm).b.map fun b=>(b.toNat:Int))) Z Z Z Tryz.underlying23 Tryz.underlying5 Bv eg_23 (by rw [List.length_map]; exact gx.last.h) (by rw [List.length_map]; exact (cid cm).h) (Ac (d:=117) (v:=.bool true) Z (by congr 1; rw [hr.la]; simp) (Ad 36 ((Cl Z Z Z (Ad 37 ((mv Z Z (Ad 38 ((gt Z Z Z (A2 (o':=37) Z Z D7 Db Z (Ad 39 ((gt Z Z Z (A4 Z Z Db (fun w h=>Bc.at1 (Fh h).1 Z) (Ad 40 ((gt Z Z Z (Bn Z Z Tryz.underlying32 Z (Ad 41 ((gt Z Z Z (Eu Z Z Z (Ac (d:=123) (v:=.bool true) Z (by congr 1; simp [hbx1]) ?_)))))))))))))))))))))))))))
 refine Ad 42 ((Cl Z Z Z (Ad 43 ((mv Z Z (Ad 44 ((gt Z Z Z (A2 (o':=38) Z Z D2 D5 Z (Ad 45 ((gt Z Z Z (A4 Z Z D5 (fun w h=>Bc.at1 (Fh h).1 Z) (Ad 46 ((gt Z Z Z (Bn Z Z Tryz.underlying33 Z (Ad 47 ((gt Z Z Z (Eu Z Z Z (Ac (d:=129) (v:=.bool true) Z (by congr 1; simp [hwl1]) (Ad 48 ((Cl Z Z Z (Ad 49 ?_))))))))))))))))))))))))))
 refine (mv Z Z (Ad 50 ((gt Z Z Z (mv Z Z (Ad 51 ((gt Z Z Z (Eu Z Z Z (Ac (d:=133) (v:=.bool true) Z (Z) (Ad 52 ((Cl Z Z Z (Ad 53 ((mv Z Z (Ad 54 ((gt Z Z Z (mv Z Z (Ad 55 ((gt Z Z Z (Eu Z Z Z (Ac (d:=137) (v:=.bool true) Z (Z) (Ad 56 ?_))))))))))))))))))))))))))
 refine (Cl Z Z Z (Ad 57 ((mv Z Z (Ad 58 ((gt Z Z Z (mv Z Z (Ad 59 ((gt Z Z Z (Eu Z Z Z (Ac (d:=141) (v:=.bool true) Z (Z) (Ad 60 ((Cl Z Z Z (Ad 61 ((Ak Z Z (A6 (qn (Ab (A5 mo ?_)))))))))))))))))))))))
 refine Ad 0 ((mv Z Z (Ad 1 ((mv Z Z (Ad 2 ((gt Z Z Z (mv Z Z (Ad 3 ((gt Z Z Z (Eu Z Z Z (Ac (d:=146) (v:=.bool true) Z (Z) (Ad 4 ((Cl Z Z Z (Ad 5 ((mv Z Z (Ad 6 ((gt Z Z Z (mv Z Z (Ad 7 ?_)))))))))))))))))))))))))
 refine (gt Z Z Z (Eu Z Z Z (Ac (d:=150) (v:=.bool true) Z (Z) (Ad 8 ((Cl Z Z Z (Ad 9 ((mv Z Z (A3 [10,11] (fun _=>false) (by kernel_rfl) Z Z (.det _ (fun Q K R m k=>(gt Z Z Z (Bx Z Z Bk (fun w h=>(Fh h.1).1) Z k))) (.det _ (fun Q K R m k=>(gt Z Z Z (Eb Z Z Bk (.head _) Z k))) (.nil (Ad 12 ((gt Z Z Z (Ao Z Z (.cons Z (.cons Z .nil)) fb_18 (csame_spec cm dm hcok.b hdok.b hsm.vals.symm hsz)  (fun w h=>⟨((Ev h).1),((Ev h).2.1),((Ev h).2.2.1),((Ev h).2.2.2.1),((Ev h).2.2.2.2.1),((Ev h).2.2.2.2.2.1),((Cu h).1),((Cu h).2.1),((Cu h).2.2.1),((Cu h).2.2.2.1),((Cu h).2.2.2.2.1),((Cu h).2.2.2.2.2.1),tR⟩) Z (fun _=>(Ae (fun w h=>h.2) (Ad 13 ((Cl Z Z Z (Ad 14 ?_)))))))))))))))))))))))
 refine (mv Z Z (Ad 15 ((gt Z Z Z (mv Z Z (Ad 16 ((gt Z Z Z (Eu Z Z Z (Ac (d:=159) (v:=.bool true) Z (by congr 1; simp [nd_sane1.1]) (Ad 17 ((Cl Z Z Z (Ad 18 ((mv Z Z (Ad 19 ((gt Z Z Z (mv Z Z (Ad 20 ((gt Z Z Z (Bn Z Z Tryz.underlying32 Z (Ad 21 ((gt Z Z Z (Eu Z Z Z ?_))))))))))))))))))))))))))))
 refine Ac (d:=164) (v:=.bool true) Z (by congr 1; simp [nd_sane1.2]) (Ad 22 ((Cl Z Z Z (Ad 23 ((mv Z Z (Ad 24 ((gt Z Z Z (bld Z lay_37 .nil (Ac (d:=167) (v:=av cZ.segs) Z (by rfl) (Ad 25 ((gt Z Z Z (Ao Z Z (.cons Z .nil) fb_15 (kcheck_spec cZ cZ_ok.b (fun x hx=>(List.not_mem_nil hx).elim) (fun x hx=>(List.not_mem_nil hx).elim))  (fun w h=>⟨Be,Be,Be,Be,tR⟩) Z (fun _=>(Ae (fun w h=>h.2) (Ad 26 ((gt Z Z Z (Eu Z Z Z (Ac (d:=169) (v:=.bool true) Z (by congr 1; simp [Dy cZ_bad]) (Ad 27 ((Cl Z Z Z ?_)))))))))))))))))))))))))
 refine Ad 28 ((mv Z Z (Ad 29 ((gt Z Z Z (mv Z Z (Ad 30 ((gt Z Z Z (Bn Z Z Tryz.underlying71 Z (Ad 31 ((gt Z Z Z (Eu Z Z Z (Ac (d:=174) (v:=.bool true) Z (by simp [Ji]) (Ad 32 ((Cl Z Z Z (Ad 33 ((mv Z Z (A3 [34,35,36,37,38,39] (fun _=>false) (by kernel_rfl) Z Z (.det (dv (Ei (gN 3) (kD 1) (kD 2))) (fun Q K R m k=>(gt Z Z Z (Bx Z Z Bb (fun w h=>(Ew h.1).1) Z (B8 (av1 _) k)))) (.det (dv Dig.zero) (fun Q K R m k=>(gt Z Z Z (bdzA Z Tryz.underlying67 Bv Ge (B8 (Z) k)))) ?_))))))))))))))))))))))))
 refine .det _ (fun Q K R m k=>(gt Z Z Z (mv Z Z k))) (.det _ (fun Q K R m k=>(gt Z Z Z (Fc Z Z Z Tryz.underlying71 Bb (by rw [Ji]; decide) (fun w h=>Sl.some (h.1.1.1) (by rw [Ji]; decide)) k))) (.det (dv (D8 (kD 1) 9)) (fun Q K R m k=>(gt Z Z Z (D4 Z Z Bb (by rw [Br]; exact (D8 (kD 1) 9).h) (fun w h=>Cv (h.1.1.1) (by decide) (fun x=>by rw [Br,x.h]) (ladL_at (i:=9) (by omega))) (B8 (Z) k)))) (.det _ (fun Q K R m k=>(gt Z Z Z (Ao Z Z (.cons Z (.cons Z .nil)) fb_28 (epoch_spec Dig.zero (D8 (kD 1) 9))  (fun w h=>⟨(Ij h.1),(pQ15 h.1),(pQ17 h.1),tR⟩) Z (fun _=>Ae (fun w h=>h.2) k)))) (.nil (Ad 40 (Ac (d:=177) (v:=.agg (Av .u8 ((Ei (gN 3) (kD 1) (kD 2)).b.map fun b=>(b.toNat:Int))).toArray) Z (by show Value.agg (An (Ei (gN 3) (kD 1) (kD 2)).b).toArray=_; rw [D9]) (Ac (d:=182) (v:=.agg (Av .u8 ((epoK Dig.zero (D8 (kD 1) 9)).b.map fun b=>(b.toNat:Int))).toArray) Z (by show Value.agg (An (epoK Dig.zero (D8 (kD 1) 9)).b).toArray=_; rw [D9]) ((gt Z Z Z (eqa (k:=.u8) (xs:=((Ei (gN 3) (kD 1) (kD 2)).b.map fun b=>(b.toNat:Int))) (ys:=((epoK Dig.zero (D8 (kD 1) 9)).b.map fun b=>(b.toNat:Int))) Z Z Z Tryz.underlying67 Tryz.underlying5 Bv eg_67 (by rw [List.length_map]; exact (Ei (gN 3) (kD 1) (kD 2)).h) (by rw [List.length_map]; exact (epoK Dig.zero (D8 (kD 1) 9)).h) (Ac (d:=183) (v:=.bool true) Z (by congr 1; rw [show Ei (gN 3) (kD 1) (kD 2)=epoK Dig.zero (D8 (kD 1) 9) from rfl]; simp) (Ad 41 ((Cl Z Z Z (Ad 42 ((Ak Z Z (A6 (qn ?_)))))))))))))))))))
 exact Af (As () Z (.tmp Z .nil) Z tR (Bl _) (fun w h=>tR) (.inl Z))
end Go.Chx
namespace Go.Chx
open Go
variable {C:Ctx} {δ:List Deferred} {ρ:Da} {l:List A9} {I:World→Prop} {K:Act→World→Prop} {Q:Exit→Act→World→Prop} {ops:Array Oper}
variable {t:TypeId} {p:String} {af:Array Edge}
def fs3 (fs:Array Field) (te:TypeId):Bool :=
 match fs.toList with
 | [a,b,c]=>a.name != "_" && b.name != "_" && c.name != "_" && a.type == te && b.type == te && c.type == te && a.offset == 0 && b.offset == 1 && c.offset == 2
 | _=>false
theorem run_st3 {P:Program} {w:World} {d b:Nat} {fs:Array Field} {tt te:TypeId} {k k':IntKind} {x0 x1 x2 y0 y1 y2:Int} (ht:P.underlying tt=some (.struct fs)) (hf:fs3 fs te=true) (hs:P.stoodInHeld tt=false) (he:P.underlying te=some (.int k')) (hy:Ty P te false 1 b) :
  (Op.equalIn (d+2) tt (.agg #[.int k x0,.int k x1,.int k x2]) (.agg #[.int k y0,.int k y1,.int k y2])).run P w=.ok (decide ((x0,x1,x2)=(y0,y1,y2))) w:=by
 have elem:∀ (m n:Int),(Op.equalIn (d+1) te (.int k m) (.int k n)).run P w=.ok (m == n) w:=by
  intro m n
  simp [Op.equalIn,run_underlying he]
 have pt:∀ (z0 z1 z2:Value) (i:Nat) (z:Value),#[z0,z1,z2][i]? = some z→(part te #[z0,z1,z2] i).run P w=.ok z w:=by
  intro z0 z1 z2 i z hz
  simp only [part,Sem.run_bind,hy.isAgg,Result.andThen_ok,Bool.false_eq_true,if_false,hz]
  rfl
 unfold fs3 at hf
 split at hf
 ·rename_i a b c hfs
  obtain rfl:fs = #[a,b,c]:=Array.toList_inj.1 hfs
  simp only [Bool.and_eq_true,bne_iff_ne,ne_eq,beq_iff_eq] at hf
  obtain ⟨⟨⟨⟨⟨⟨⟨⟨h1,h2⟩,h3⟩,h4⟩,h5⟩,h6⟩,h7⟩,h8⟩,h9⟩:=hf
  rw [show d+2=(d+1)+1 from rfl,Op.equalIn]
  generalize hE:Op.equalIn (d+1)=E at elem
  simp only [Sem.run_bind,run_underlying ht,Result.andThen_ok]
  simp only [run_program,Result.andThen_ok,hs,Bool.false_eq_true,if_false,Sem.run_pure]
  have p0:(part te #[.int k x0,.int k x1,.int k x2] 0).run P w=.ok (.int k x0) w:=pt _ _ _ _ _ rfl
  have p1:(part te #[.int k x0,.int k x1,.int k x2] 1).run P w=.ok (.int k x1) w:=pt _ _ _ _ _ rfl
  have p2:(part te #[.int k x0,.int k x1,.int k x2] 2).run P w=.ok (.int k x2) w:=pt _ _ _ _ _ rfl
  have q0:(part te #[.int k y0,.int k y1,.int k y2] 0).run P w=.ok (.int k y0) w:=pt _ _ _ _ _ rfl
  have q1:(part te #[.int k y0,.int k y1,.int k y2] 1).run P w=.ok (.int k y1) w:=pt _ _ _ _ _ rfl
  have q2:(part te #[.int k y0,.int k y1,.int k y2] 2).run P w=.ok (.int k y2) w:=pt _ _ _ _ _ rfl
  simp only [List.forIn_toArray,List.forIn_cons,Sem.run_bind,ne_eq,h1,h2,h3,not_false_eq_true,if_true,h4,h5,h6,h7,h8,h9,p0,q0,Result.andThen_ok,elem]
  by_cases e0:x0=y0
  ·by_cases e1:x1=y1
   ·by_cases e2:x2=y2
    ·subst e0 e1 e2; simp [p1,p2,q1,q2,elem]
    ·have:(x2 == y2)=false:=by simpa using e2
     subst e0 e1; simp [p1,p2,q1,q2,elem,e2,this]
   ·have:(x1 == y1)=false:=by simpa using e1
    subst e0; simp [p1,q1,elem,e1,this]
  ·have:(x0 == y0)=false:=by simpa using e0
   simp [e0,this]
 ·cases hf
theorem ne3 {d b:Nat} {x y:Operand} {fs:Array Field} {tt te u:TypeId} {k k':IntKind} {x0 x1 x2 y0 y1 y2:Int} (hd:Nat.blt d C.N=true) (hx:Bw ρ x=some (.agg #[.int k x0,.int k x1,.int k x2])) (hy:Bw ρ y=some (.agg #[.int k y0,.int k y1,.int k y2])) (ht:C.P.underlying tt=some (.struct fs)) (hf:fs3 fs te=true) (hs:C.P.stoodInHeld tt=false) (he:C.P.underlying te=some (.int k')) (hT:Ty C.P te false 1 b)
  (hg:C.P.eqGuardType C.P.depth tt=false)
  (kk:KJ C K δ ((d,.bool (!decide ((x0,x1,x2)=(y0,y1,y2))))::ρ) l I):KJ C (Ax C ops ⟨some d,.binOp .neq tt x y u,t,p,af,none⟩ K Q) δ ρ l I :=
 Bm rfl rfl (by simp) hd (fun a w ha _=>by
  have:=run_st3 (P:=C.P) (w:=w) (d:=9998) (k:=k) (x0:=x0) (x1:=x1) (x2:=x2) (y0:=y0) (y1:=y1) (y2:=y2) ht hf hs he hT
  have hq:(Op.equal tt (.agg #[.int k x0,.int k x1,.int k x2]) (.agg #[.int k y0,.int k y1,.int k y2])).run C.P w=.ok (decide ((x0,x1,x2)=(y0,y1,y2))) w:=this
  simp only [execOp,eqGuard,binOp,ha.ev hx,ha.ev hy,hg,hq]
  simp [hg,hq]) kk
end Go.Chx
