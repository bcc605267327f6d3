/- Part of the proof that the law CommitsMembers holds. -/
import Derived.Test.YtegbaopejhpnkaaGreatDoorAa
import Derived.Test.YtegbaopejhpnkaaGreatDoorAh
import Derived.Test.YtegbaopejhpnkaaGreatDoorAm
import Derived.Test.YtegbaopejhpnkaaGreatDoorAr
namespace Go.Chx
open Go Go.Proofs
set_option maxHeartbeats 1000000
set_option maxRecDepth 4000
def stF (l:List (Int × Int)) (d p:Int):Int→Option Value:=Ft (chF l d) (512+d) (iv p)
def Jz (f:Int→Option Value) (qs:List (Int × Int)):Int→Option Value:=qs.foldl (fun f q=>Ft f q.1 (iv q.2)) f
def rnF (l:List (Int × Int)) (d:Int) (ps:List Int):Int→Option Value:=Jz (chF l d) ((upK d).zip ps)
theorem I1.puts {f:Int→Option Value} (h:I1 f) (qs:List (Int × Int)):I1 (Jz f qs):=by
 unfold Jz
 induction qs generalizing f with
 | nil=>exact h
 | cons q qs ih=>exact ih (h.put _ _)
theorem putsF_snoc (f:Int→Option Value) (qs:List (Int × Int)) (q:Int × Int):Jz f (qs++[q])=Ft (Jz f qs) q.1 (iv q.2):=by unfold Jz; rw [List.foldl_append]; rfl
theorem stF_keys {l:List (Int × Int)} {d p x:Int} (h:(stF l d p x).isSome=true):x∈(512+d)::l.map (·.1):=by
 unfold stF Ft at h
 split at h
 ·rename_i h1; subst h1; exact .head _
 ·exact .tail _ (chF_keys h)
theorem putsF_keys {f:Int→Option Value} {qs:List (Int × Int)} {x:Int} (h:(Jz f qs x).isSome=true):x∈qs.map (·.1)∨(f x).isSome=true:=by
 unfold Jz at h
 induction qs generalizing f with
 | nil=>exact .inr h
 | cons q qs ih =>
  rcases ih h with h1 | h1
  ·exact .inl (.tail _ h1)
  ·have h1:(if x=q.1 then some (iv q.2) else f x).isSome=true:=h1
   split at h1
   ·rename_i h2; subst h2; exact .inl (.head _)
   ·exact .inr h1
theorem rnF_keys {l:List (Int × Int)} {d x:Int} {ps:List Int} (h:(rnF l d ps x).isSome=true):x∈upK d++l.map (·.1):=by
 rcases putsF_keys h with h | h
 ·obtain ⟨q,hq,rfl⟩:=List.mem_map.1 h
  exact List.mem_append_left _ (List.of_mem_zip hq).1
 ·exact List.mem_append_right _ (chF_keys h)
theorem upK_len (d:Int):(upK d).length≤65:=by unfold upK; have:=alL_len d C8; simp only [List.length_cons]; omega
theorem remove_ok (t:Tr) (hl:t.l.length≤10000) (d:Int) (hc:Ie t.l d true):Ay Tryz.prog 133 [t.v,iv d] [] (fun w=>t.F w∧True) (fun x:Tr=>⟨x.l=srtL (chF t.l d)∧x.l.length≤x.c∧x.l.length≤t.l.length,.tuple #[x.v,iv 0],[],fun w=>x.F w∧True⟩):=by
 refine Aj Tryz.func133 Z Z fun X w0=>?_
 have hl0:=hl
 replace hl:t.l.length≤1000000:=by omega
 refine Ab (Aa (oj (C6 Z Z (fun r2=>(Al (Am 0 _ _ Z) ?_)))))
 try dsimp only [List.eraseIdx]
 refine oj (C7 Z Ja (fun r4=>(oj (Ak Z Z (on (qn (Ab (Aa (oj (Bx Z Z B1 (fun w h=>h.1.1) Z (oj (mv Z Z (oj (call Z Z (.cons Z (.cons Z (.cons Z .nil))) fb_129 (chg_okT t hl d hc)  (fun w h=>⟨(h.2.1),tR⟩) ?_))))))))))))))
 rintro ⟨⟨rm,es_m,cl_m⟩,⟨pa,pc⟩⟩ ⟨hm_m,hpc⟩
 try dsimp only at hm_m hpc
 try dsimp only
 refine oj (mv Z Z (oj (ext Z Z Z (oj (ext Z Z Z (oj (ext Z Z Z (oj (Ak Z Z (oj (Ak Z Z (oj (Ak Z Z (on (qn (Ab (Aa (oj (mv Z Z (kj_pubO (i:=0) Z ?_))))))))))))))))))))
 try dsimp only [List.eraseIdx]
 refine oj (call Z Z (.cons Z .nil) fb_132 (tree_spec rm es_m cl_m (chF t.l d) hm_m (I1.ch _ _) (t.l.map (·.1)) (fun x h=>chF_keys h) (by rw [List.length_map]; omega))  (fun w h=>⟨(h.1.1),tR⟩) ?_)
 rintro ⟨tl,ta,tc⟩ ⟨hsr,htc,htk⟩
 try dsimp only at hsr htc htk
 try dsimp only
 try dsimp only at hsr htc htk
 exact oj (mv Z Z (oj (C0 Z Z B1 Z Z .head (oj (Ak Z Z (on (qn (Af (As ⟨tl,ta,tc⟩ Z (.cellW Z B1 (.head _) Z (.tmp Z .nil)) Z ⟨srtL_eq hsr,htc,by rw [List.length_map] at htk; exact htk⟩ (Bl _) (fun w h=>⟨(h.1.1),tR⟩) (.inl Z))))))))))
theorem remove_bad (t:Tr) (hl:t.l.length≤10000) (d:Int) (hc : ¬ Ie t.l d true):Ay Tryz.prog 133 [t.v,iv d] [] (fun w=>t.F w∧True) (fun x:Tr=>⟨x.l=[],.tuple #[x.v,iv (chB t.l)],[],fun w=>x.F w∧True⟩):=by
 refine Aj Tryz.func133 Z Z fun X w0=>?_
 have hl0:=hl
 replace hl:t.l.length≤1000000:=by omega
 refine Ab (Aa (oj (C6 Z Z (fun r2=>(Al (Am 0 _ _ Z) ?_)))))
 try dsimp only [List.eraseIdx]
 refine oj (C7 Z Ja (fun r4=>(oj (Ak Z Z (on (qn (Ab (Aa (oj (Bx Z Z B1 (fun w h=>h.1.1) Z (oj (mv Z Z (oj (Ao Z Z (.cons Z (.cons Z (.cons Z .nil))) fb_129 (chg_badT t hl d hc)  (fun w h=>⟨(h.2.1),tR⟩) Z (fun _=>(Ae (fun w h=>h.2) (oj (mv Z Z (oj (ext Z Z Z (oj (ext Z Z Z (oj (ext Z Z Z (oj (Ak Z Z (oj (Ak Z Z ?_))))))))))))))))))))))))))))
 refine oj (Ak Z Z (on (qn (Ab (Aa (oj (mv Z Z (oj (call Z Z (.cons Z .nil) fb_132 treen_spec  (fun w h=>tR) ?_)))))))))
 rintro ⟨tl,ta,tc⟩ hz
 try dsimp only at hz
 try dsimp only
 exact oj (mv Z Z (oj (C0 Z Z B1 Z Z .head (oj (Ak Z Z (on (qn (Af (As ⟨tl,ta,tc⟩ Z (.cellW Z B1 (.head _) Z (.tmp Z .nil)) Z hz (Bl _) (fun w h=>⟨(h.1.1),tR⟩) (.inl Z))))))))))
theorem set_ok (t:Tr) (hl:t.l.length≤10000) (d:Int) (p:Int) (hc:Ie t.l d false) (hp:el p=true):Ay Tryz.prog 134 [t.v,iv d,iv p] [] (fun w=>t.F w∧True) (fun x:Tr=>⟨x.l=srtL (stF t.l d p)∧x.l.length≤x.c∧x.l.length≤t.l.length+1,.tuple #[x.v,iv 0],[],fun w=>x.F w∧True⟩):=by
 refine Aj Tryz.func134 Z Z fun X w0=>?_
 have hl0:=hl
 replace hl:t.l.length≤1000000:=by omega
 have hd:=Bu.1 hc.2.1
 refine Ab (Aa (oj (C6 Z Z (fun r3=>(Al (Am 0 _ _ Z) ?_)))))
 try dsimp only [List.eraseIdx]
 refine oj (C7 Z Ja (fun r6=>(oj (Ak Z Z (on (qn (Ab (Aa (oj (Bx Z Z B1 (fun w h=>h.1.1) Z (oj (mv Z Z (oj (call Z Z (.cons Z (.cons Z (.cons Z .nil))) fb_129 (chg_okF t hl d hc)  (fun w h=>⟨(h.2.1),tR⟩) ?_))))))))))))))
 rintro ⟨⟨rm,es_m,cl_m⟩,⟨pa,pc⟩⟩ ⟨hm_m,hpc⟩
 try dsimp only at hm_m hpc
 try dsimp only
 refine oj (mv Z Z (oj (ext Z Z Z (oj (ext Z Z Z (oj (ext Z Z Z (oj (Ak Z Z (oj (Ak Z Z (oj (Ak Z Z (on (qn (Ab (Ab (Aa (oj (mv Z Z (oj (G2 Z Z Z (on (qn ?_))))))))))))))))))))))))
 refine C5 Z (fun ht=>absurd ht (by simp)) (fun hf=>(Ah (qn (Ab (Ab (Aa (oj (mv Z Z (oj (Ao Z Z (.cons Z .nil) J2 (Dq p)  (fun w h=>tR) Z (fun _=>(Ae (fun w h=>h.2) (oj (G2 Z Z Z (on (qn (C5 Z (fun ht=>absurd ht (by simp [Ed.2 hp])) (fun hf=>(Ah (qn (Ab ?_)))))))))))))))))))))
 refine Aa (oj (mv Z Z (oj (mv Z Z (oj (add Z Z Z (by omega) (oj (mv Z Z (oj (mup Z Z Z Tryz.underlying160 Tryz.underlying3 (fun _ _=>.head) hm_m (fun es_m cl_m hm_m=>(on (qn (Ab (Aa (oj (mv Z Z (kj_pubO (i:=0) Z ?_))))))))))))))))))
 try dsimp only [List.eraseIdx]
 refine oj (call Z Z (.cons Z .nil) fb_132 (tree_spec rm es_m cl_m (stF t.l d p) hm_m ((I1.ch _ _).put _ _) ((512+d)::t.l.map (·.1)) (fun x h=>stF_keys h) (by simp only [List.length_cons,List.length_map]; omega))  (fun w h=>⟨(h.1.1),tR⟩) ?_)
 rintro ⟨tl,ta,tc⟩ ⟨hsr,htc,htk⟩
 try dsimp only at hsr htc htk
 try dsimp only
 try dsimp only at hsr htc htk
 exact oj (C0 Z Z B1 Z Z .head (oj (Ak Z Z (on (qn (Af (As ⟨tl,ta,tc⟩ Z (.cellW Z B1 (.head _) Z (.tmp Z .nil)) Z ⟨srtL_eq hsr,htc,by simp only [List.length_cons,List.length_map] at htk; exact htk⟩ (Bl _) (fun w h=>⟨(h.1.1),tR⟩) (.inl Z))))))))
theorem set_bad (t:Tr) (hl:t.l.length≤10000) (d:Int) (p:Int) (hc : ¬ Ie t.l d false):Ay Tryz.prog 134 [t.v,iv d,iv p] [] (fun w=>t.F w∧True) (fun x:Tr=>⟨x.l=[],.tuple #[x.v,iv (chB t.l)],[],fun w=>x.F w∧True⟩):=by
 refine Aj Tryz.func134 Z Z fun X w0=>?_
 have hl0:=hl
 replace hl:t.l.length≤1000000:=by omega
 have hcb:chB t.l≠0:=by unfold chB; split <;> decide
 refine Ab (Aa (oj (C6 Z Z (fun r3=>(Al (Am 0 _ _ Z) ?_)))))
 try dsimp only [List.eraseIdx]
 refine oj (C7 Z Ja (fun r6=>(oj (Ak Z Z (on (qn (Ab (Aa (oj (Bx Z Z B1 (fun w h=>h.1.1) Z (oj (mv Z Z (oj (Ao Z Z (.cons Z (.cons Z (.cons Z .nil))) fb_129 (chg_badF t hl d hc)  (fun w h=>⟨(h.2.1),tR⟩) Z (fun _=>(Ae (fun w h=>h.2) (oj (mv Z Z (oj (ext Z Z Z (oj (ext Z Z Z (oj (ext Z Z Z (oj (Ak Z Z (oj (Ak Z Z ?_))))))))))))))))))))))))))))
 refine oj (Ak Z Z (on (qn (Ab (Ab (Aa (oj (mv Z Z (oj (G2 Z Z Z (on (qn (C5 Z (fun ht=>(Ab (Aa (oj (Eb Z Z B1 (.head _) Z (oj (mv Z Z (oj (C0 Z Z B1 Z Z .head ?_))))))))) (fun hf=>absurd hf (hcb)))))))))))))))
 exact oj (Ak Z Z (on (qn (Af (qr (As ⟨[],none,0⟩ Z (.cellW Z B1 (.head _) Z (.tmp Z .nil)) Z Z (Bl _) (fun w h=>⟨Be,tR⟩) (.inl Z)))))))
theorem renew1_spec (p:Int):Ay Tryz.prog 131 [iv p] [] (fun _=>True) (fun _:Unit=>⟨True,.bool (!el p),[],fun _=>True⟩):=by
 refine Aj Tryz.func131 Z Z fun X w0=>(Ab (Aa (oj (Ak Z Z (on (qn (Ab (Aa (oj (mv Z Z (oj (Ao Z Z (.cons Z .nil) J2 (Dq p)  (fun w h=>tR) Z (fun _=>(Ae (fun w h=>h.2) (oj (G2 Z Z Z ?_))))))))))))))))
 exact Ac (d:=5) (v:=.bool (!el p)) Z (by cases h:el p <;> simp [elE,h]) (oj (Ak Z Z (on (qn (Af (As () Z (.tmp Z .nil) Z tR .slnil (fun w h=>tR) (.inl Z)))))))
theorem renew_ok (t:Tr) (hl:t.l.length≤10000) (d:Int) (ps:List Int) (psa:Option Addr) (psc:Nat) (hc:Ie t.l d true) (hpl:ps.length=10) (hpe:∀ p∈ps,el p=true) (hal9:(Dz d C8).length=9):Ay Tryz.prog 53 [t.v,iv d,.slice psa ps.length psc] [] (fun w=>t.F w∧Sl 1 ps.length (ps.flatMap fun x=>[iv x]) (.slice psa ps.length psc) w∧True) (fun x:Tr=>⟨x.l=srtL (rnF t.l d ps)∧x.l.length≤x.c∧x.l.length≤t.l.length+65,.tuple #[x.v,iv 0],[],fun w=>x.F w∧True⟩):=by
 refine Aj Tryz.func53 Z Z fun X w0=>?_
 have hl0:=hl
 replace hl:t.l.length≤1000000:=by omega
 have hd:=Bu.1 hc.2.1
 refine Ab (Aa (oj (C6 Z Z (fun r3=>(Al (Am 0 _ _ Z) ?_)))))
 try dsimp only [List.eraseIdx]
 refine oj (C7 Z Ja (fun r6=>(oj (Ak Z Z (on (qn (Ab (Aa (oj (Bx Z Z B1 (fun w h=>h.1.1) Z (oj (mv Z Z (oj (call Z Z (.cons Z (.cons Z (.cons Z .nil))) fb_129 (chg_okT t hl d hc)  (fun w h=>⟨(h.2.1),tR⟩) ?_))))))))))))))
 rintro ⟨⟨rm,es_m,cl_m⟩,⟨pa,pc⟩⟩ ⟨hm_m,hpc⟩
 try dsimp only at hm_m hpc
 try dsimp only
 refine oj (mv Z Z (oj (ext Z Z Z (oj (ext Z Z Z (oj (ext Z Z Z (oj (Ak Z Z (oj (Ak Z Z (oj (Ak Z Z (on (qn (Ab (Ab (Aa (oj (mv Z Z (oj (G2 Z Z Z (on (qn ?_))))))))))))))))))))))))
 refine C5 Z (fun ht=>absurd ht (by simp)) (fun hf=>(Ah (qn (Ab (Ab (Aa (oj (mv Z Z (oj (Bn Z Z Tryz.underlying31 Z (oj (G2 Z Z Z (Ac (d:=25) (v:=.bool false) Z (by rw [hpl]; rfl) (oj (mv Z Z (oj (gt Z Z Z ((mv Z Z (oj (gt Z Z Z ((Ao Z Z (.cons Z (.cons Z .nil)) fb_130 (containsf_int (fun _=>True) psa ps.length psc ps Z (by omega) 131 [] [] (fun p=>!el p) fb_131 (fun x _=>renew1_spec x))  (fun w h=>⟨(Cu h),tR,tR⟩) Z (fun _=>(Ae (fun w h=>h.2) ?_)))))))))))))))))))))))))
 have hany:(ps.any fun p=>!el p)=false:=by rw [List.any_eq_false]; intro x hx; simp [hpe x hx]
 refine Ac (d:=28) (v:=.bool false) Z (congrArg Value.bool hany) (oj (Df Z Z Z (on (qn (Ap Z (fun h=>by cases h) (fun _=>(Ah (qn (Ab (Aa (oj (mv Z Z (oj (mv Z Z (oj (add Z Z Z (by omega) (oj (mv Z Z ?_))))))))))))))))))
 obtain ⟨p0,hp0⟩:∃ x,ps[0]? = some x:=⟨_,List.getElem?_eq_getElem (by omega)⟩
 refine oj (Fc Z Z Z Tryz.underlying31 Ai (by omega) (fun w h=>Sl.some (Cu h) (by omega)) (oj (A4 Z Z Ai (fun w h=>Sl.elem1 (Cu h) (Dh hp0)) (oj (mup Z Z Z Tryz.underlying160 Tryz.underlying3 (fun _ _=>.head) hm_m (fun es_m cl_m hm_m=>(on (qn (Ab (Ab (Aa (oj (mv Z Z (oj (Bn Z Z Tryz.underlying31 Z (oj (mv Z Z (on (qn (Ag (Aw (fun (sT:(Nat) × (Array MapEntry) × (Nat))=>(⟨sT.1≤(Dz d C8).length∧MapI sT.2.1 sT.2.2 (Jz (chF t.l d) (((upK d).zip ps).take (sT.1+1))),[(2,.slice psa ps.length psc),(6,Bg r6 0),(8,mpV rm),(37,.slice pa (Dz d C8).length pc),(38,iv (Dz d C8).length),(39,iv (sT.1:Int))],[mpE rm sT.2.1 sT.2.2,bx r6 [S1 (.slice none 0 0)] 27],fun w=>Sl 1 (Dz d C8).length ((Dz d C8).flatMap fun x=>[iv x]) (.slice pa (Dz d C8).length pc) w∧Sl 1 ps.length (ps.flatMap fun x=>[iv x]) (.slice psa ps.length psc) w∧True,(Dz d C8).length-sT.1⟩:Hd)) (0,_,_) (⟨Nat.zero_le _,by rw [show ((upK d).zip ps).take 1=[(512+d,p0)] from by cases ps with | nil=>simp at hpl | cons q qs=>simp at hp0; subst hp0; simp [upK]]; exact hm_m⟩) (⟨Z,Z,Z,Z,Z,Z,tR⟩) (.refl _) (fun w h=>⟨(h.1.1),(Cu h),tR⟩) ?_)))))))))))))))))))))
 rintro ⟨j,es_m,cl_m⟩ ⟨hj,hm_m⟩
 try dsimp only
 try dsimp only at hj hm_m
 refine Ab (Aa (oj (Dd Z Z Z (on (qn (Ab ?_))))))
 refine A8 Z (fun ht=>?_) (fun hf=>?_)
 ·obtain ⟨x,hx⟩:∃ x,(Dz d C8)[j]? = some x:=⟨_,List.getElem?_eq_getElem (by omega)⟩
  obtain ⟨p1,hp1⟩:∃ x,ps[j+1]? = some x:=⟨_,List.getElem?_eq_getElem (by omega)⟩
  refine Ah (qn (Ab (Ag (Ab (Aa (oj (mv Z Z (oj (Fc Z Z Z Tryz.underlying31 Ai (by omega) (fun w h=>Sl.some (h.1) (by omega)) (oj (A4 Z Z Ai (fun w h=>Sl.elem1 (h.1) (Dh hx)) (oj (Ak Z Z (oj (Ak Z Z (on (qn (Aa (oj (mv Z Z (oj (mv Z Z ?_))))))))))))))))))))))
  refine oj (mv Z Z (oj (mv Z Z (oj (add Z Z Z (by omega) (Ac (d:=48) (v:=iv ((j+1:Nat):Int)) Z (by rfl) (oj (Fc Z Z Z Tryz.underlying31 Ai (by omega) (fun w h=>Sl.some (h.2.1) (by omega)) (oj (A4 Z Z Ai (fun w h=>Sl.elem1 (h.2.1) (Dh hp1)) (oj (mup Z Z Z Tryz.underlying160 Tryz.underlying3 (fun _ _=>.head) hm_m (fun es_m cl_m hm_m=>(on (bn (qn (Aa (oj (add Z Z Z (by omega) (oj (mv Z Z (on (qn ?_)))))))))))))))))))))))
  exact Ar (j+1,es_m,cl_m) (by dsimp only; omega) (⟨by (try dsimp only); omega,by rw [A7 (show ((upK d).zip ps)[j+1]? = some (x,p1) from by rw [List.getElem?_zip_eq_some]; exact ⟨by simpa [upK] using hx,hp1⟩),putsF_snoc]; exact hm_m⟩) (⟨Z,Z,Z,Z,Z,Z,tR⟩) (.refl _) (fun w h=>⟨(h.1),(h.2.1),tR⟩)
 ·have h4:j=(Dz d C8).length:=by omega
  subst h4
  rw [List.take_of_length_le (by rw [List.length_zip]; simp only [upK,List.length_cons]; omega)] at hm_m
  refine A1 (qe (qe (be (qn (Ab (Aa (oj (mv Z Z (kj_pubO (i:=0) Z ?_)))))))))
  try dsimp only [List.eraseIdx]
  refine oj (call Z Z (.cons Z .nil) fb_132 (tree_spec rm es_m cl_m (rnF t.l d ps) hm_m ((I1.ch _ _).puts _) (upK d++t.l.map (·.1)) (fun x h=>rnF_keys h) (by have:=upK_len d; simp only [List.length_append,List.length_map]; omega))  (fun w h=>⟨(h.1.1),tR⟩) ?_)
  rintro ⟨tl,ta,tc⟩ ⟨hsr,htc,htk⟩
  try dsimp only at hsr htc htk
  try dsimp only
  try dsimp only at hsr htc htk
  exact oj (C0 Z Z B1 Z Z .head (oj (Ak Z Z (on (qn (Af (As ⟨tl,ta,tc⟩ Z (.cellW Z B1 (.head _) Z (.tmp Z .nil)) Z ⟨srtL_eq hsr,htc,by have:=upK_len d; simp only [List.length_append,List.length_map] at htk; (try dsimp only); omega⟩ (Bl _) (fun w h=>⟨(h.1.1),tR⟩) (.inl Z))))))))
theorem renew_bad (t:Tr) (hl:t.l.length≤10000) (d:Int) (ps:List Int) (psa:Option Addr) (psc:Nat) (hc : ¬ Ie t.l d true):Ay Tryz.prog 53 [t.v,iv d,.slice psa ps.length psc] [] (fun w=>t.F w∧True) (fun x:Tr=>⟨x.l=[],.tuple #[x.v,iv (chB t.l)],[],fun w=>x.F w∧True⟩):=by
 refine Aj Tryz.func53 Z Z fun X w0=>?_
 have hl0:=hl
 replace hl:t.l.length≤1000000:=by omega
 have hcb:chB t.l≠0:=by unfold chB; split <;> decide
 refine Ab (Aa (oj (C6 Z Z (fun r3=>(Al (Am 0 _ _ Z) ?_)))))
 try dsimp only [List.eraseIdx]
 refine oj (C7 Z Ja (fun r6=>(oj (Ak Z Z (on (qn (Ab (Aa (oj (Bx Z Z B1 (fun w h=>h.1.1) Z (oj (mv Z Z (oj (Ao Z Z (.cons Z (.cons Z (.cons Z .nil))) fb_129 (chg_badT t hl d hc)  (fun w h=>⟨(h.2.1),tR⟩) Z (fun _=>(Ae (fun w h=>h.2) (oj (mv Z Z (oj (ext Z Z Z (oj (ext Z Z Z (oj (ext Z Z Z (oj (Ak Z Z (oj (Ak Z Z ?_))))))))))))))))))))))))))))
 refine oj (Ak Z Z (on (qn (Ab (Ab (Aa (oj (mv Z Z (oj (G2 Z Z Z (on (qn (C5 Z (fun ht=>(Ab (Aa (oj (Eb Z Z B1 (.head _) Z (oj (mv Z Z (oj (C0 Z Z B1 Z Z .head ?_))))))))) (fun hf=>absurd hf (hcb)))))))))))))))
 exact oj (Ak Z Z (on (qn (Af (qr (As ⟨[],none,0⟩ Z (.cellW Z B1 (.head _) Z (.tmp Z .nil)) Z Z (Bl _) (fun w h=>⟨Be,tR⟩) (.inl Z)))))))
theorem tpublic_spec (t:Tr) (hl:t.l.length≤1000000) (n:Int):Ay Tryz.prog 27 [t.v,iv n] [] (fun w=>t.F w∧True) (fun _:Unit=>⟨True,.tuple #[iv (vI (ofF t.l n)),.bool (ofF t.l n).isSome],[],fun _=>True⟩):=by
 refine Aj Tryz.func27 Z Z fun X w0=>(Ab (Aa (oj (C6 Z Z (fun r2=>(Al (Am 0 _ _ Z) ?_))))))
 try dsimp only [List.eraseIdx]
 refine oj (Ak Z Z (oj (Ak Z Z (on (qn (Ab (Aa (oj (Bx Z Z B1 (fun w h=>h.1.1) Z (oj (call Z Z (.cons Z .nil) fb_96 (of_spec t hl)  (fun w h=>⟨(h.2.1),tR⟩) ?_)))))))))))
 rintro ⟨rm,es_m,cl_m⟩ hm_m
 try dsimp only at hm_m
 try dsimp only
 refine oj (mv Z Z (oj (mlo Z Z Z Tryz.underlying160 Tryz.underlying3 zb_3 (fun w ho h=>⟨_,_,ho _ _ (.head _),hm_m⟩) (oj (mv Z Z (oj (ext Z Z Z (Ac (d:=11) (v:=iv (vI (ofF t.l n))) Z (by rw [← vI_get (I1.of _)]; rfl) (oj (ext Z Z Z (oj (Ak Z Z (oj (Ak Z Z (on (qn (Ab (Aa (oj (mv Z Z (oj (mv Z Z (oj (Ak Z Z (oj (Ak Z Z ?_))))))))))))))))))))))))))
 exact on (qn (Af (As () Z (.tmp Z (.tmp Z .nil)) Z tR (Bl _) (fun w h=>tR) (.inl Z))))
def rsL (f:Int→Option Value):Nat→Int→List Int
 | 0,n=>if (f n).isSome then [n] else []
 | k+1,n=>if (f n).isSome then [n] else if n≥512 then [] else rsL f k (2*n)++rsL f k (2*n+1)
theorem rsL_some {f:Int→Option Value} {k:Nat} {n:Int} (h:(f n).isSome=true):rsL f (k+1) n=[n]:=by rw [rsL,if_pos h]
theorem rsL_leaf {f:Int→Option Value} {k:Nat} {n:Int} (h : ¬ (f n).isSome=true) (h2:n≥512):rsL f (k+1) n=[]:=by rw [rsL,if_neg h,if_pos h2]
theorem rsL_in {f:Int→Option Value} {k:Nat} {n:Int} (h : ¬ (f n).isSome=true) (h2 : ¬ n≥512):rsL f (k+1) n=rsL f k (2*n)++rsL f k (2*n+1):=by rw [rsL,if_neg h,if_neg h2]
theorem rsL_len (f:Int→Option Value):∀ (k:Nat) (n:Int),(rsL f k n).length≤2 ^ k
 | 0,n=>by rw [rsL]; split <;> simp
 | k+1,n=>by
  have h1:=rsL_len f k (2*n)
  have h2:=rsL_len f k (2*n+1)
  have h3:0 < 2 ^ k:=Nat.two_pow_pos k
  rw [rsL]
  split
  ·simp only [List.length_singleton,Nat.pow_succ]; omega
  ·split
   ·simp
   ·rw [List.length_append,Nat.pow_succ]; omega
theorem Ii (r:Nat) (n:Int):Ay Tryz.prog 233 [mpV r,iv n] [] (fun _=>True) (fun x:Nat × Nat=>⟨True,.func (.func 271) #[] #[Bg x.1 0,Bg x.2 0],[],fun w=>Bc x.1 [S1 (mpV r)] 160 w∧Bc x.2 [S1 (iv n)] 3 w∧True⟩):=by
 refine Aj Tryz.func233 Z Z fun X w0=>(Ab (Aa (oj (box1 Z Z Z (fun r2=>(Al (Am 0 _ _ Z) ?_))))))
 try dsimp only [List.eraseIdx]
 refine oj (box1 Z Z Z (fun r3=>(Al (Am 0 _ _ Z) ?_)))
 try dsimp only [List.eraseIdx]
 exact oj (Ak Z Z (on (qn (Ab (Aa (oj (mkF Z .nil (.cons Z (.cons Z .nil)) (oj (Ak Z Z (on (qn (Af (As (r2,r3) Z (.tmp Z .nil) Z tR .slnil (fun w h=>⟨(h.2.1.1),(h.1.1),tR⟩) (.inl Z))))))))))))))
theorem res_step (r:Nat) (es:Array MapEntry) (cl:Nat) (f:Int→Option Value) (hm:MapI es cl f) (k:Nat) (n:Int) (hn0:1≤n∧n < 1024) (r1 r2:Nat) (ih:n < 512→∀ (c:Int) (a b:Nat),(c=2*n∨c=2*n+1)→Fd Tryz.prog 271 [] [Bg a 0,Bg b 0] [] (fun w=>Bc a [S1 (mpV r)] 160 w∧Bc b [S1 (iv c)] 3 w∧MapO r es cl w∧True) (fun x:Int=>[iv x]) (· = rsL f k c)):Fd Tryz.prog 271 [] [Bg r1 0,Bg r2 0] [] (fun w=>Bc r1 [S1 (mpV r)] 160 w∧Bc r2 [S1 (iv n)] 3 w∧MapO r es cl w∧True) (fun x:Int=>[iv x])  ((· = rsL f (k+1) n)):=by
 intro y σ Ps L J T s0 hs0 hY
 refine Dv Tryz.func271 Z Z fun X w0=>Ae (fun w h=>(h:J s0 w∧(fun w=>Bc r1 [S1 (mpV r)] 160 w∧Bc r2 [S1 (iv n)] 3 w∧MapO r es cl w∧True) w)) (Ab (Aa (oj (box1 Z Z Z (fun r3=>(Al (Am 0 _ _ Z) ?_))))))
 try dsimp only [List.eraseIdx]
 refine on (qn (Ab (Ab (Aa (oj (A4 Z Z ty_160 (fun w h=>Bc.at1 (h.2.2.1) Z) (oj (A4 Z Z Ai (fun w h=>Bc.at1 (Cu h) Z) (oj (mlo Z Z Z Tryz.underlying160 Tryz.underlying3 zb_3 (fun w ho h=>⟨_,_,(Dw h),hm⟩) (oj (mv Z Z (oj (ext Z Z Z (oj (ext Z Z Z (oj (Ak Z Z (oj (Ak Z Z (on (qn (Ab ?_)))))))))))))))))))))))
 refine Aa (oj (mv Z Z (on (qn ?_))))
 refine Ap Z (fun hsm=>?_) (fun hno=>?_)
 ·refine Ab (Aa (oj (A4 Z Z ty_124 (fun w h=>Bc.at1 (h.1.1) Z) (oj (A4 Z Z Ai (fun w h=>Bc.at1 (Cu h) Z) (oj (yldr (own:=[]) hY (x:=n) ⟨[],[],.nil,(rsL_some hsm).symm⟩ hs0 Z Z (.cons Z .nil) Z (fun w h=>(h.2.1)) (fun s2x hP hT=>?_))))))))
  try dsimp only [List.cons_append,List.nil_append]
  exact kj_J (on (qn (Af (qr (retM (ds:=[]) s2x Z (.refl _) Z .nil Z ⟨hP,_,Z,by rw [rsL_some hsm]; exact .cons hT .nil⟩ (.refl _) (fun w h=>(h.1.1)) (.inl Z))))))
 ·have hno : ¬ (f n).isSome=true:=by simpa using hno
  refine Ah (qn (Ab (Ab (Aa (oj (A4 Z Z Ai (fun w h=>Bc.at1 (Cu h) Z) (oj (gei Z Z Z (on (qn ?_))))))))))
  refine A8 Z (fun hge=>?_) (fun hlt=>?_)
  ·exact Af (qr (retM (ds:=[]) s0 Z (.refl _) Z .nil Z ⟨hs0,_,Z,by rw [rsL_leaf hno hge]; exact .nil⟩ (.refl _) (fun w h=>(h.2.1)) (.inl Z)))
  ·refine Ah (qn (Ab (Aa ?_)))
   have hn:n < 512:=by omega
   refine oj (A4 Z Z Ai (fun w h=>Bc.at1 (Cu h) Z) (oj (mul Z Z Z (by omega) (oj (A4 Z Z Ai (fun w h=>Bc.at1 (Cu h) Z) (oj (mul Z Z Z (by omega) (oj (add Z Z Z (by omega) (oj (bda Z Tryz.underlying257 Ai zok_257 (C3 Z Z (C3 Z Z .nil)) (by simp) Z Z (oj (mv Z Z (on (qn (Ag (cj_rounds 3 (cj_rsucc (Ab (Aa (oj (Dd Z Z Z (Ac (d:=28) (v:=.bool true) Z (Z) ?_)))))))))))))))))))))))
   refine on (qn (Ab (Ap Z (fun _=>(Ah (qn (Ab (Ag (Ab (Aa (oj (ixv1 Z Z Z Tryz.underlying257 Ai Z (by omega) (Z) (oj (Ak Z Z (on (qn (Ab (Aa ?_))))))))))))))) (fun h=>by cases h))))
   refine oj (A4 Z Z ty_160 (fun w h=>Bc.at1 (h.2.2.1) Z) (oj (mv Z Z (oj (call Z Z (.cons Z (.cons Z .nil)) fb_233 (Ii r (2*n))  (fun w h=>tR) ?_)))))
   rintro ⟨qa1,qb1⟩ _
   try dsimp only
   refine on (qn (Ag ?_))
   refine Hr Z Z fb_271 (ih hn (2*n) qa1 qb1 (.inl Z)) (fun (sT:(σ))=>(⟨Ps sT,[],L sT,fun w=>J sT w∧Bc r3 [S1 (.func (.yield y) #[] #[])] 124 w∧True,0⟩:Hd)) (T) (s0) (hs0) (List.Sublist.refl _) (fun w h=>⟨(h.1.1),(h.1.2.1),(Ez h),tR⟩) (fun w h=>⟨(h.2.2.1),(h.2.1.1),tR⟩) (fun _=>⟨Z,Z⟩) ?_ ?_
   ·rintro s1 x hs1 ⟨ys,zs,hrn,hGy⟩ rl rd fn tm X1 w1
    try dsimp only [List.cons_append,List.nil_append]
    refine Cn (l':=[_]++(L s1)) (List.perm_append_comm (l₁:=[_]) (l₂:=L s1)) ?_
    try dsimp only [List.cons_append,List.nil_append]
    refine Aa (oj (Ak Z Z (on (qn (Fy .head (Ag (Ab (Aa (oj (A4 Z Z ty_124 (fun w h=>Bc.at1 (h.2.1) Z) (oj (mv Z Z (oj (yldr (own:=[_]) hY (x:=x) ⟨ys,zs++rsL f k (2*n+1),hrn,by rw [rsL_in hno hlt]; have h:=congrArg (·++rsL f k (2*n+1)) hGy; simpa using h⟩ hs1 Z Z (.cons Z .nil) Z (fun w h=>(h.1)) (fun s2x hP hT=>?_)))))))))))))))
    try dsimp only [List.cons_append,List.nil_append]
    exact kj_J (oj (not Z Z (on (qn (Ap Z (fun h=>by cases h) (fun _=>(Ah (bn (Cn (l':=(L s2x)++[_]) (List.perm_append_comm (l₁:=L s2x) (l₂:=[_])) (Ik (s2x) (Upd.snoc _ _ _) Z (⟨hP,hT⟩) (.refl _) (fun w h=>⟨(h.1.1),(h.2.2.1),tR⟩)))))))))))
   ·rintro s1 rd9 hs1 ⟨gs1,hg1,hrun1⟩
    try dsimp only [List.cons_append,List.nil_append]
    refine bn (bn (qn (Aa (oj (add Z Z Z (by omega) (oj (mv Z Z (on (qn (cj_rsucc (Ab (Aa (oj (Dd Z Z Z (Ac (d:=28) (v:=.bool true) Z (Z) (on (qn (Ab ?_))))))))))))))))))
    refine Ap Z (fun _=>(Ah (qn (Ab (Ag (Ab (Aa (oj (ixv1 Z Z Z Tryz.underlying257 Ai Z (by omega) (Z) (oj (Ak Z Z (on (qn (Ab (Aa (oj (A4 Z Z ty_160 (fun w h=>Bc.at1 (Dw h) Z) (oj (mv Z Z (oj (call Z Z (.cons Z (.cons Z .nil)) fb_233 (Ii r (2*n+1))  (fun w h=>tR) ?_))))))))))))))))))))) (fun h=>by cases h)
    rintro ⟨qa2,qb2⟩ _
    try dsimp only
    refine on (qn (Ag ?_))
    refine Hr Z Z fb_271 (ih hn (2*n+1) qa2 qb2 (.inr Z)) (fun (sT:(σ))=>(⟨Ps sT,[],([mkE rd9]++L sT),fun w=>J sT w∧Bc r3 [S1 (.func (.yield y) #[] #[])] 124 w∧True,0⟩:Hd)) (T) (s1) (hs1) (List.Sublist.refl _) (fun w h=>⟨(h.1.1),(h.1.2.1),(Fg h),tR⟩) (fun w h=>⟨(h.2.1.1),(h.2.1.2.1),tR⟩) (fun _=>⟨Z,Z⟩) ?_ ?_
    ·rintro s2 x hs2 ⟨ys,zs,hrn,hGy⟩ rl rd fn tm X1 w1
     try dsimp only [List.cons_append,List.nil_append]
     refine Cn (l':=[_]++(mkE rd9::L s2)) (List.perm_append_comm (l₁:=[_]) (l₂:=mkE rd9::L s2)) ?_
     try dsimp only [List.cons_append,List.nil_append]
     refine Aa (oj (Ak Z Z (on (qn (Fy .head (Ag (Ab (Aa (oj (A4 Z Z ty_124 (fun w h=>Bc.at1 (h.2.1) Z) (oj (mv Z Z (oj (yldr (own:=[_,_]) hY (x:=x) ⟨gs1++ys,zs,hrun1.trans hrn,by rw [rsL_in hno hlt,← hg1]; have h:=congrArg (gs1++·) hGy; simpa using h⟩ hs2 Z Z (.cons Z .nil) Z (fun w h=>(h.1)) (fun s2x hP hT=>?_)))))))))))))))
     try dsimp only [List.cons_append,List.nil_append]
     exact kj_J (oj (not Z Z (on (qn (Ap Z (fun h=>by cases h) (fun _=>(Ah (bn (Cn (l':=(mkE rd9::L s2x)++[_]) (List.perm_append_comm (l₁:=mkE rd9::L s2x) (l₂:=[_])) (Ik (s2x) (Upd.snoc _ _ _) Z (⟨hP,hT⟩) (.refl _) (fun w h=>⟨(h.1.1),(h.2.2.1),tR⟩)))))))))))
    ·rintro s2 rd9_1 hs2 ⟨gs2,hg2,hrun2⟩
     try dsimp only [List.cons_append,List.nil_append]
     refine bn (bn (qn (Aa (oj (add Z Z Z (by omega) (oj (mv Z Z (on (qn (cj_rsucc (Ab (Aa (oj (Dd Z Z Z (Ac (d:=28) (v:=.bool false) Z (Z) (on (qn (Ab ?_))))))))))))))))))
     exact Ap Z (fun h=>by cases h) (fun _=>(A1 (qe (qe (be (retM (ds:=[rd9_1,rd9]) s2 Z (.refl _) Z .nil Z ⟨hs2,_,Z,by rw [rsL_in hno hlt,← hg1,← hg2]; exact hrun1.trans hrun2⟩ (.refl _) (fun w h=>(h.1.1)) (.inr Z)))))))
theorem res_it (r:Nat) (es:Array MapEntry) (cl:Nat) (f:Int→Option Value) (hm:MapI es cl f):∀ (k:Nat) (n:Int),1≤n∧n < 1024→512≤n*2 ^ k→∀ a b:Nat,Fd Tryz.prog 271 [] [Bg a 0,Bg b 0] [] (fun w=>Bc a [S1 (mpV r)] 160 w∧Bc b [S1 (iv n)] 3 w∧MapO r es cl w∧True) (fun x:Int=>[iv x]) (· = rsL f (k+1) n)
 | 0,n,hn,h,a,b=>res_step r es cl f hm 0 n hn a b (fun hlt=>by omega)
 | k+1,n,hn,h,a,b=>res_step r es cl f hm (k+1) n hn a b (fun hlt c a' b' hc=>by
   refine res_it r es cl f hm k c (by omega) ?_ a' b'
   have h2:n*2 ^ (k+1)=(2*n)*2 ^ k:=by rw [Int.pow_succ,Int.mul_comm (2 ^ k) 2,← Int.mul_assoc,Int.mul_comm n 2]
   have h3:(0:Int) < 2 ^ k:=Int.pow_pos (by decide)
   rcases hc with rfl | rfl
   ·omega
   ·rw [Int.add_mul]; omega)
def cmpI (x y:Int):Int:=if x < y then -1 else if x > y then 1 else 0
theorem cmpI_lt {x y:Int}:cmpI x y < 0↔x < y:=by unfold cmpI; split <;> (try split) <;> omega
theorem cmpI_eq {x y:Int}:cmpI x y=0↔x=y:=by unfold cmpI; split <;> (try split) <;> omega
structure Mb where
 (d s v:Int)
abbrev Mb.cells (m:Mb):List Value:=[iv m.d,iv m.s,iv m.v]
abbrev Mb.segs (m:Mb):List Seg:=[S1 (iv m.d),S1 (iv m.s),S1 (iv m.v)]
structure Gp where
 (folder epoch:Int)
 last:Dig
 ms:List Mb
 (mA:Option Addr)
 (mC:Nat)
 tr:Tr
abbrev Gp.segs (g:Gp):List Seg:=[S1 (iv g.folder),S1 (iv g.epoch),sd g.last,S1 (.slice g.mA g.ms.length g.mC),Fr 1 [.slice g.tr.a g.tr.l.length g.tr.c]]
abbrev GF1 (g:Gp):World→Prop:=Sl 3 g.ms.length (g.ms.flatMap Mb.cells) (.slice g.mA g.ms.length g.mC)
def MsS (ms:List Mb):Prop:=ms.Pairwise fun a b=>a.d < b.d
def mIdx (ms:List Mb) (d:Int):Nat:=ms.countP fun m=>decide (m.d < d)
def Gu (ms:List Mb) (d:Int):Bool:=ms.any fun m=>decide (m.d=d)
theorem mIdx_eq {ms:List Mb} {d:Int} {i:Nat} (hi:i≤ms.length) (h1:∀ j m,j < i→ms[j]? = some m→m.d < d) (h2:∀ j m,i≤j→ms[j]? = some m→¬ m.d < d):mIdx ms d=i:=by
 unfold mIdx
 have e:ms=ms.take i++ms.drop i:=(List.take_append_drop i ms).symm
 rw [e,List.countP_append]
 have c1:(ms.take i).countP (fun m=>decide (m.d < d))=(ms.take i).length:=by
  rw [List.countP_eq_length]
  intro m hm
  obtain ⟨j,hj⟩:=List.mem_iff_getElem?.1 hm
  rw [List.getElem?_take] at hj
  split at hj
  ·rename_i h; simpa using h1 j m h hj
  ·cases hj
 have c2:(ms.drop i).countP (fun m=>decide (m.d < d))=0:=by
  rw [List.countP_eq_zero]
  intro m hm
  obtain ⟨j,hj⟩:=List.mem_iff_getElem?.1 hm
  rw [List.getElem?_drop] at hj
  simpa using h2 (i+j) m (by omega) hj
 rw [c1,c2,List.length_take]; omega
theorem mHas_at {ms:List Mb} {d:Int} {i:Nat} (hs:MsS ms) (h1:∀ j m,j < i→ms[j]? = some m→m.d < d) (h2:∀ j m,i≤j→ms[j]? = some m→¬ m.d < d):Gu ms d=match ms[i]? with | some m=>decide (m.d=d) | none=>false:=by
 cases hm:ms[i]? with
 | none =>
  unfold Gu
  rw [List.any_eq_false]
  intro m hmm
  obtain ⟨j,hj⟩:=List.mem_iff_getElem?.1 hmm
  have hjl:j < ms.length:=(List.getElem?_eq_some_iff.1 hj).1
  have hil:ms.length≤i:=List.getElem?_eq_none_iff.1 hm
  have:=h1 j m (by omega) hj
  simp; omega
 | some m =>
  show Gu ms d=decide (m.d=d)
  by_cases h:m.d=d
  ·rw [decide_eq_true h]
   unfold Gu
   exact List.any_eq_true.2 ⟨m,List.mem_of_getElem? hm,by simpa using h⟩
  ·rw [decide_eq_false h]
   unfold Gu
   rw [List.any_eq_false]
   intro m' hm'
   simp only [decide_eq_true_eq]
   intro he
   obtain ⟨j,hj⟩:=List.mem_iff_getElem?.1 hm'
   obtain ⟨hi',ei⟩:=List.getElem?_eq_some_iff.1 hm
   obtain ⟨hj',ej⟩:=List.getElem?_eq_some_iff.1 hj
   unfold MsS at hs
   rw [List.pairwise_iff_getElem] at hs
   have h3:=h2 i m (Nat.le_refl _) hm
   rcases Nat.lt_trichotomy i j with hlt | hlt | hlt
   ·have:=hs i j hi' hj' hlt
    rw [ei,ej] at this
    omega
   ·subst hlt
    rw [hm] at hj; cases hj; exact h he
   ·have:=h1 j m' hlt hj
    omega
theorem ms_low {ms:List Mb} {d:Int} {i:Nat} {q:Mb} (hs:MsS ms) (hq:ms[i]? = some q) (h:q.d < d) {j:Nat} {m:Mb} (hj:j≤i) (hm:ms[j]? = some m):m.d < d:=by
 obtain ⟨hi',ei⟩:=List.getElem?_eq_some_iff.1 hq
 obtain ⟨hj',ej⟩:=List.getElem?_eq_some_iff.1 hm
 unfold MsS at hs
 rw [List.pairwise_iff_getElem] at hs
 rcases Nat.lt_or_ge j i with hlt | hge
 ·have:=hs j i hj' hi' hlt
  rw [ei,ej] at this; omega
 ·have:j=i:=by omega
  subst this; rw [hq] at hm; cases hm; exact h
theorem ms_high {ms:List Mb} {d:Int} {i:Nat} {q:Mb} (hs:MsS ms) (hq:ms[i]? = some q) (h : ¬ q.d < d) {j:Nat} {m:Mb} (hj:i≤j) (hm:ms[j]? = some m) : ¬ m.d < d:=by
 obtain ⟨hi',ei⟩:=List.getElem?_eq_some_iff.1 hq
 obtain ⟨hj',ej⟩:=List.getElem?_eq_some_iff.1 hm
 unfold MsS at hs
 rw [List.pairwise_iff_getElem] at hs
 rcases Nat.lt_or_ge i j with hlt | hge
 ·have:=hs i j hi' hj' hlt
  rw [ei,ej] at this; omega
 ·have:j=i:=by omega
  subst this; rw [hq] at hm; cases hm; exact h
theorem isnan_spec (x:Int):Ay Tryz.prog 138 [iv x] [] (fun _=>True) (fun _:Unit=>⟨True,.bool false,[],fun _=>True⟩):=by
 refine Aj Tryz.func138 Z Z fun X w0=>(Ab (Aa (oj (Ak Z Z (on (qn (Ab (Aa (oj (mv Z Z (oj (mv Z Z (oj (G2 Z Z Z (Ac (d:=5) (v:=.bool false) Z (by simp) (oj (Ak Z Z (on (qn (Af ?_))))))))))))))))))))
 exact As () Z (.tmp Z .nil) Z tR .slnil (fun w h=>tR) (.inl Z)
theorem compare_spec (x y:Int):Ay Tryz.prog 62 [iv x,iv y] [] (fun _=>True) (fun _:Unit=>⟨True,iv (cmpI x y),[],fun _=>True⟩):=by
 refine Aj Tryz.func62 Z Z fun X w0=>(Ab (Aa (oj (Ak Z Z (on (qn (Ab (Aa (oj (mv Z Z (oj (Ao Z Z (.cons Z .nil) fb_138 (isnan_spec x)  (fun w h=>tR) Z (fun _=>(Ae (fun w h=>h.2) (oj (Ak Z Z (on (qn (Ab (Aa ?_))))))))))))))))))))
 refine oj (mv Z Z (oj (Ao Z Z (.cons Z .nil) fb_138 (isnan_spec y)  (fun w h=>tR) Z (fun _=>(Ae (fun w h=>h.2) (oj (Ak Z Z (on (qn (Ab (Ab (Aa (oj (mv Z Z (on (qn (Ap Z (fun h=>by cases h) (fun _=>(Ah (qn (Ab ?_)))))))))))))))))))))
 refine Ab (Aa (oj (mv Z Z (on (qn (Ap Z (fun h=>by cases h) (fun _=>(Ah (qn (Ab (Ab (Aa (oj (mv Z Z (oj (mv Z Z (oj (Dd Z Z Z (on (qn ?_))))))))))))))))))))
 refine A8 Z (fun ht=>?_) (fun hf1=>?_)
 ·exact Ab (Aa (oj (Ak Z Z (on (qn (Af (qr (Ac (d:=4) (v:=iv (cmpI x y)) Z (by unfold cmpI; rw [if_pos ht]) (As () Z (.tmp Z .nil) Z tR .slnil (fun w h=>tR) (.inl Z))))))))))
 ·refine Ah (qn (Ab (Ab (Aa (oj (mv Z Z (oj (mv Z Z (oj (gti Z Z Z (on (qn ?_))))))))))))
  refine A8 Z (fun ht=>?_) (fun hf=>?_)
  ·exact Ab (Aa (oj (Ak Z Z (on (qn (Af (qr (Ac (d:=4) (v:=iv (cmpI x y)) Z (by unfold cmpI; rw [if_neg hf1,if_pos ht]) (As () Z (.tmp Z .nil) Z tR .slnil (fun w h=>tR) (.inl Z))))))))))
  ·exact Ah (qn (Ab (Aa (oj (Ak Z Z (on (qn (Af (Ac (d:=4) (v:=iv (cmpI x y)) Z (by unfold cmpI; rw [if_neg hf1,if_neg hf]) (As () Z (.tmp Z .nil) Z tR .slnil (fun w h=>tR) (.inl Z)))))))))))
theorem member1_spec (m:Mb) (d:Int):Ay Tryz.prog 191 [av m.segs,iv d] [] (fun _=>True) (fun _:Unit=>⟨True,iv (cmpI m.d d),[],fun _=>True⟩):=by
 refine Aj Tryz.func191 Z Z fun X w0=>(Ab (Aa (oj (C6 Z Z (fun r2=>(oj (Ak Z Z (on (qn (Ab (Aa (oj (A2 (o':=0) Z Z fld_45_0 Ai Z (oj (Bh Z Z Ai (.head _) (Z) (oj (mv Z Z (oj (Ao Z Z (.cons Z (.cons Z .nil)) fb_62 (compare_spec m.d d)  (fun w h=>tR) Z (fun _=>(Ae (fun w h=>h.2) (oj (Ak Z Z (on ?_))))))))))))))))))))))))
 exact qn (Af (As () Z (.tmp Z .nil) Z tR (Bl _) (fun w h=>tR) (.inl Z)))
theorem bsearch_spec (a:Option Addr) (ms:List Mb) (cap:Nat) (d:Int) (hs:MsS ms) (hl:ms.length≤1000000):Ay Tryz.prog 190 [.slice a ms.length cap,iv d,.func (.func 191) #[] #[]] [] (fun w=>Sl 3 ms.length (ms.flatMap Mb.cells) (.slice a ms.length cap) w∧True) (fun _:Unit=>⟨True,.tuple #[iv (mIdx ms d:Nat),.bool (Gu ms d)],[],fun _=>True⟩):=by
 refine Aj Tryz.func190 Z Z fun X w0=>(Ab (Aa (oj (Ak Z Z (oj (Ak Z Z (on (qn (Ab (Aa (oj (mv Z Z (oj (Bn Z Z Tryz.underlying24 Z (oj (Ak Z Z (on (qn (Ab (Aa ?_))))))))))))))))))))
 refine oj (mv Z Z (oj (Ak Z Z (oj (Ak Z Z (on (qn (Ab (Ag (Aw (fun (sT:(Nat) × (Nat))=>(⟨sT.1≤sT.2∧sT.2≤ms.length∧(∀ j m,j < sT.1→ms[j]? = some m→m.d < d)∧(∀ j m,sT.2≤j→ms[j]? = some m→¬ m.d < d),[(0,.slice a ms.length cap),(1,iv d),(2,.func (.func 191) #[] #[]),(8,iv ms.length),(9,iv (sT.1:Int)),(10,iv (sT.2:Int))],[],fun w=>Sl 3 ms.length (ms.flatMap Mb.cells) (.slice a ms.length cap) w∧True,sT.2-sT.1⟩:Hd)) (0,ms.length) (⟨Nat.zero_le _,Nat.le_refl _,fun j m h=>absurd h (Nat.not_lt_zero _),fun j m h hj=>absurd (List.getElem?_eq_some_iff.1 hj).1 (by omega)⟩) (⟨Z,Z,Z,Z,Z,Z,tR⟩) .slnil (fun w h=>⟨(h.1),tR⟩) ?_))))))))))
 rintro ⟨lo,hi⟩ ⟨h1,h2,h3,h4⟩
 try dsimp only
 try dsimp only at h1 h2 h3 h4
 refine Ab (Ab (Aa (oj (mv Z Z (oj (mv Z Z (oj (Dd Z Z Z (on (qn ?_))))))))))
 refine A8 Z (fun hlt=>?_) (fun hge=>?_)
 ·obtain ⟨q,hq⟩:∃ x,ms[(lo+hi) / 2]? = some x:=⟨_,List.getElem?_eq_getElem (by omega)⟩
  refine Ah (qn (Ag (Ab (Aa (oj (mv Z Z (oj (mv Z Z (oj (add Z Z Z (by omega) (oj (Ig Z Tryz.underlying3 Tryz.underlying177 Z (Ac (d:=21) (v:=nv (lo+hi)) Z (by rw [C4 (by omega)]; rfl) (oj (shrN (b:=1) Z Z Z Z Z (by omega) (oj (Ig Z Tryz.underlying177 Tryz.underlying3 Z (Ac (d:=23) (v:=iv ((lo+hi) / 2:Nat)) Z (by rw [Dr (by omega)]) (oj (Ak Z Z (on (qn ?_))))))))))))))))))))))
  refine Ab (Aa (oj (mv Z Z (oj (mv Z Z (oj (mv Z Z (oj (Fc Z Z Z Tryz.underlying24 Dk (by omega) (fun w h=>Sl.some (h.1) (by omega)) (oj (D4 Z Z Dk Z (fun w h=>Cv (h.1) (by decide) (fun _=>Z) hq) (Ac (d:=28) (v:=av q.segs) Z Z (oj (mv Z Z (oj (Ao Z Z (.cons Z (.cons Z .nil)) fb_191 (member1_spec q d)  (fun w h=>tR) Z (fun _=>(Ae (fun w h=>h.2) (oj (Dd Z Z Z (on (qn ?_))))))))))))))))))))))
  refine A8 Z (fun hcmp=>?_) (fun hcmp=>?_)
  ·exact Aa (oj (mv Z Z (oj (add Z Z Z (by omega) (oj (Ak Z Z (on (bn (qn (Ar ((lo+hi) / 2+1,hi) (by dsimp only; omega) (⟨by (try dsimp only); omega,h2,fun j m hj hm=>ms_low hs hq (cmpI_lt.1 hcmp) (by omega) hm,h4⟩) (⟨Z,Z,Z,Z,Z,Z,tR⟩) .slnil (fun w h=>⟨(h.1),tR⟩)))))))))))
  ·exact Aa (oj (mv Z Z (oj (Ak Z Z (on (bn (qn (Ar (lo,(lo+hi) / 2) (by dsimp only; omega) (⟨by (try dsimp only); omega,by (try dsimp only); omega,h3,fun j m hj hm=>ms_high hs hq (fun h=>hcmp (cmpI_lt.2 h)) hj hm⟩) (⟨Z,Z,Z,Z,Z,Z,tR⟩) .slnil (fun w h=>⟨(h.1),tR⟩)))))))))
 ·have hlh:hi=lo:=by omega
  subst hlh
  have hidx:=mIdx_eq h2 h3 h4
  have hhas:=mHas_at hs h3 h4
  refine A1 (qe (qe (be (qn (Ab (Aa (oj (mv Z Z (oj (mv Z Z (oj (mv Z Z (oj (Dd Z Z Z (oj (mv Z Z ?_))))))))))))))))
  refine B5 (d:=39) Z (fun hl2=>?_) (fun hl2=>?_)
  ·obtain ⟨q,hq⟩:∃ x,ms[hi]? = some x:=⟨_,List.getElem?_eq_getElem (by omega)⟩
   refine oj (gt Z Z Z ((mv Z Z (oj (gt Z Z Z ((mv Z Z (oj (gt Z Z Z ((mv Z Z (oj (gt Z Z Z ((Fc Z Z Z Tryz.underlying24 Dk (by omega) (fun w h=>Sl.some (h.1) (by omega)) (oj (gt Z Z Z ((D4 Z Z Dk Z (fun w h=>Cv (h.1) (by decide) (fun _=>Z) hq) (Ac (d:=44) (v:=av q.segs) Z Z (oj (gt Z Z Z ((mv Z Z (oj (gt Z Z Z ((Ao Z Z (.cons Z (.cons Z .nil)) fb_191 (member1_spec q d)  (fun w h=>tR) Z (fun _=>(Ae (fun w h=>h.2) ?_))))))))))))))))))))))))))))))
   exact oj (gt Z Z Z ((Eu Z Z Z (oj (Cl Z Z Z (oj (Ak Z Z (oj (Ak Z Z (on (qn (Af (Ac (d:=6) (v:=iv (mIdx ms d:Nat)) Z (by rw [hidx]) (Ac (d:=7) (v:=.bool (Gu ms d)) Z (by rw [hhas,hq]; show Value.bool (cmpI q.d d == 0)=Value.bool (decide (q.d=d)); congr 1; rw [Bool.eq_iff_iff]; simp [cmpI_eq]) (As () Z (.tmp Z (.tmp Z .nil)) Z tR .slnil (fun w h=>tR) (.inl Z))))))))))))))))
  ·refine oj (gf Z Z Z Z Z Z (oj (gf Z Z Z Z Z Z (oj (gf Z Z Z Z Z Z (oj (gf Z Z Z Z Z Z (oj (gf Z Z Z Z Z Z (oj (gf Z Z Z Z Z Z (oj (gf Z Z Z Z Z Z (oj (gf Z Z Z Z Z Z (oj (Df Z Z Z (oj (Ak Z Z (oj (Ak Z Z (on (qn (Af (Ac (d:=6) (v:=iv (mIdx ms d:Nat)) Z (by rw [hidx]) (Ac (d:=7) (v:=.bool (Gu ms d)) Z (by rw [hhas,List.getElem?_eq_none (by omega)]) ?_))))))))))))))))))))))))))
   exact As () Z (.tmp Z (.tmp Z .nil)) Z tR .slnil (fun w h=>tR) (.inl Z)
theorem member_spec (g:Gp) (d:Int) (hs:MsS g.ms) (hl:g.ms.length≤1000000):Ay Tryz.prog 128 [av g.segs,iv d] [] (fun w=>GF1 g w∧True) (fun _:Unit=>⟨True,.tuple #[iv (mIdx g.ms d:Nat),.bool (Gu g.ms d)],[],fun _=>True⟩):=by
 refine Aj Tryz.func128 Z Z fun X w0=>(Ab (Aa (oj (C6 Z Z (fun r2=>(Al (Am 0 _ _ Z) ?_))))))
 try dsimp only [List.eraseIdx]
 refine oj (Ak Z Z (oj (Ak Z Z (on (qn (Ab (Aa (oj (A2 (o':=34) Z Z Dg Dl Z (oj (A4 Z Z Dl (fun w h=>Bc.at1 h.1.1 Z) (oj (mv Z Z (oj (Ao Z Z (.cons Z (.cons Z (.cons Z .nil))) fb_190 (bsearch_spec g.mA g.ms g.mC d hs hl)  (fun w h=>⟨(h.2.1),tR⟩) Z (fun _=>(Ae (fun w h=>h.2) (oj (ext Z Z Z (oj (ext Z Z Z (oj (Ak Z Z (oj (Ak Z Z (on ?_))))))))))))))))))))))))))
 exact qn (Af (As () Z (.tmp Z (.tmp Z .nil)) Z tR .slnil (fun w h=>tR) (.inl Z)))
end Go.Chx
