/- Part of the proof that the law CommitsMembers holds. -/
import Derived.Test.YtegbaopejhpnkaaGreatDoorAa
import Derived.Test.YtegbaopejhpnkaaGreatDoorAh
import Derived.Test.YtegbaopejhpnkaaGreatDoorBc
import Derived.Test.YtegbaopejhpnkaaGreatDoorBd
import Derived.Test.YtegbaopejhpnkaaGreatDoorBe
namespace Go.Chx
open Go Go.Proofs
set_option maxHeartbeats 1000000
set_option maxRecDepth 4000
def inE (g:Gp) (ini:Dig):Dig:=if g.epoch=0 then Dig.zero else ini
noncomputable def Ei (g:Gp) (leaf ini:Dig):Dig:=epoK (inE g ini) (D8 leaf 9)
noncomputable def bdyD (c:Cm):Dig:=E2 lbBody (enc (.list ((Cb c).take 8)))
noncomputable def hdF (g:Gp) (a:Int) (tag:List UInt8) (ls:List Int):Dig:=E2 tag (enc (.list ([.int g.folder,.int (g.epoch+1),.text g.last.b,.int a]++ls.map .int)))
structure BxR (g:Gp) (a:Int) (ch:List Chg) (leaf seed:Dig) (x y:Bxx):Prop where
 n:x.n=y.n
 lv:x.lv=y.lv
 u:x.u=J4 (Eh seed Bz [y.lv,y.n])
 b:x.b=Jt (vI (ofF (Hh g.tr.l ch) y.n)) (Eh seed Bz [y.lv,y.n]) (hdF g a Bz [y.lv,y.n]).b (D8 leaf y.lv.toNat).b
structure WlR (g:Gp) (a:Int) (sec seed:Dig) (x:Wlc) (y:Chg):Prop where
 d:x.d=y.d
 u:x.u=J4 (Eh seed A0 [y.d])
 b:x.b=Jt y.p (Eh seed A0 [y.d]) (hdF g a A0 [y.d]).b sec.b
def cZ:Cm:=⟨0,0,0,0,0,Dig.zero,Dig.zero,[],[],[],[],none,none,none,none,0,0,0,0⟩
structure MkX (g:Gp) (a priv:Int) (ch:List Chg) (leaf ini seed:Dig) (c:Cm) (sec:Dig):Prop extends Mk g a priv ch leaf c where
 sec:sec=Ei g leaf ini
 co:c.confirm=confK (Ei g leaf ini) (bdyD c)
 bxr:∀ (i:Nat) x y,c.bx[i]? = some x→(Hw g a ch)[i]? = some y→BxR g a ch leaf seed x y
 wlr:∀ (i:Nat) x y,c.wl[i]? = some x→(wcS a ch)[i]? = some y→WlR g a (Ei g leaf ini) seed x y
theorem md1 {g:Gp} {a priv:Int} {ch:List Chg} (h:g.epoch≥1099511627776):mdE g a priv ch=1:=by unfold mdE; rw [if_pos h]
theorem md2 {g:Gp} {a priv:Int} {ch:List Chg} (h : ¬ g.epoch≥1099511627776) (h1:ndE g a ch≠0):mdE g a priv ch=ndE g a ch:=by unfold mdE; rw [if_neg h,if_pos h1]
theorem md3 {g:Gp} {a priv:Int} {ch:List Chg} (h : ¬ g.epoch≥1099511627776) (h1:ndE g a ch=0) (h2:puE priv≠0):mdE g a priv ch=puE priv:=by unfold mdE; rw [if_neg h,if_neg (fun k=>k h1),if_pos h2]
theorem md4 {g:Gp} {a priv:Int} {ch:List Chg} (h : ¬ g.epoch≥1099511627776) (h1:ndE g a ch=0) (h2:puE priv=0) (h3:puV priv≠vkI g a ch):mdE g a priv ch=221:=by unfold mdE; rw [if_neg h,if_neg (fun k=>k h1),if_neg (fun k=>k h2),if_pos h3]
theorem puE_kv {x:Int} (h:puE x=0):kv x=true:=by
 by_cases hk:kv x=true
 ·exact hk
 ·unfold puE at h; rw [if_neg hk] at h; cases h
theorem pu_priv (s:Dig):puV (Fm s)=Iz (Fm s):=by unfold puV; rw [if_pos (show kv (Fm s)=true from kv_scal _ _)]
abbrev cmS (f e:Int) (p:Dig) (a:Int) (xA:Option Addr) (xn xc:Nat) (pA:Option Addr) (pn pc:Nat) (bA:Option Addr) (bn bc:Nat) (wA:Option Addr) (wn wc:Nat) (cf:Dig) (r s:Int):List Seg:=[S1 (iv f),S1 (iv e),sd p,S1 (iv a),S1 (.slice xA xn xc),S1 (.slice pA pn pc),S1 (.slice bA bn bc),S1 (.slice wA wn wc),sd cf,sgS r s]
def CFb (bs:List Bxx) (w:World):Prop:=∀ b∈bs,Sl 1 b.b.length (An b.b) (.slice b.a b.b.length b.c) w
def CFw (bs:List Wlc) (w:World):Prop:=∀ b∈bs,Sl 1 b.b.length (An b.b) (.slice b.a b.b.length b.c) w
theorem CFb.snoc {bs:List Bxx} {x:Bxx} {w:World} (h:CFb bs w) (k:Sl 1 x.b.length (An x.b) (.slice x.a x.b.length x.c) w):CFb (bs++[x]) w:=fun b hb=>by
 rcases List.mem_append.1 hb with hb | hb
 ·exact h b hb
 ·rw [List.mem_singleton.1 hb]; exact k
theorem CFw.snoc {bs:List Wlc} {x:Wlc} {w:World} (h:CFw bs w) (k:Sl 1 x.b.length (An x.b) (.slice x.a x.b.length x.c) w):CFw (bs++[x]) w:=fun b hb=>by
 rcases List.mem_append.1 hb with hb | hb
 ·exact h b hb
 ·rw [List.mem_singleton.1 hb]; exact k
theorem Own.sl {e:TypeId} {sz n:Nat} {v:Value} {xs:List Value} {en:A9} (h:Own e sz v n xs en) (h1:xs.all (·.oneCell')=true) {w:World} (ho:∀ r o,some (r,o)∈[en]→w.heap[r]? = some o):Sl sz n xs v w:=by
 have hlen:=h.len
 cases h with
 | nil=>exact ⟨none,0,rfl,Nat.le_refl _,by simp,h1,.inl rfl⟩
 | row hc hm hl hx =>
  refine ⟨_,_,Z,hc,hlen,h1,.inr ⟨_,Z,fun j u hu=>?_⟩⟩
  rw [Addr.add_lit]
  refine E0 (ho _ _ (.head _)) ?_
  rw [← hx,List.getElem?_take] at hu
  split at hu
  ·simpa using hu
  ·cases hu
theorem lad_sl {leaf:Dig} {la:Addr} {lc j:Nat} {w:World} (h:Sl 32 (Ef leaf).length ((Ef leaf).flatMap fun x:Dig=>An x.b) (.slice (some la) (Ef leaf).length lc) w) (hj:j < 10):Sl 1 (D8 leaf j).b.length (An (D8 leaf j).b) (.slice (some (la.add (j*32))) (D8 leaf j).b.length 32) w:=by
 have h1:=Cv h (by decide) (fun x=>by rw [Br,x.h]) (ladL_at hj)
 exact ⟨_,_,Z,by rw [(D8 leaf j).h]; decide,by rw [Br,Nat.mul_one],Co _,.inr h1⟩
theorem snoc_rel {α β:Type} {R:α→β→Prop} {bs:List α} {nd:List β} {x:α} {y:β} (h:∀ (i:Nat) a b,bs[i]? = some a→nd[i]? = some b→R a b) (hy:nd[bs.length]? = some y) (hR:R x y):∀ (i:Nat) a b,(bs++[x])[i]? = some a→nd[i]? = some b→R a b:=by
 intro i a b ha hb
 rcases Nat.lt_or_ge i bs.length with hi | hi
 ·rw [List.getElem?_append_left hi] at ha; exact h i a b ha hb
 ·rw [List.getElem?_append_right hi] at ha
  have:i-bs.length=0:=by
   have:=(List.getElem?_eq_some_iff.1 ha).1
   simp at this; omega
  rw [this] at ha
  have e:i=bs.length:=by omega
  subst e
  rw [hy] at hb
  simp at ha hb
  subst ha hb
  exact hR
theorem wrU_el (s:Dig):el (J4 s)=true:=baV_el (inQ_kv (kv_scal _ _))
theorem wrC_len (p:Int) (s:Dig) (h:List UInt8) (d:Dig):(Jt p s h d.b).length=48:=by unfold Jt; rw [sealB_len,d.h]
theorem BxR.ok {g:Gp} {a:Int} {ch:List Chg} {leaf seed:Dig} {x y:Bxx} (h:BxR g a ch leaf seed x y):x.n=y.n∧x.lv=y.lv∧el x.u=true∧x.b.length=48:=⟨h.n,h.lv,by rw [h.u]; exact wrU_el _,by rw [h.b]; exact wrC_len _ _ _ _⟩
theorem WlR.all {g:Gp} {a:Int} {sec seed:Dig} {ws:List Wlc} {ys:List Chg} (hl:ws.length=ys.length) (h:∀ (i:Nat) x y,ws[i]? = some x→ys[i]? = some y→WlR g a sec seed x y):ws.map (·.d)=ys.map (·.d)∧∀ x∈ws,el x.u=true∧x.b.length=48:=by
 have hat:∀ (i:Nat) x,ws[i]? = some x→∃ y,ys[i]? = some y∧WlR g a sec seed x y:=fun i x hx=>by
  have hi:=(List.getElem?_eq_some_iff.1 hx).1
  exact ⟨_,List.getElem?_eq_getElem (by omega),h i x _ hx (List.getElem?_eq_getElem (by omega))⟩
 constructor
 ·apply List.ext_getElem?
  intro i
  rw [List.getElem?_map,List.getElem?_map]
  cases hx:ws[i]? with
  | none =>
   have:=List.getElem?_eq_none_iff.1 hx
   rw [List.getElem?_eq_none (by omega)]; rfl
  | some x =>
   obtain ⟨y,hy,hr⟩:=hat i x hx
   rw [hy]; simp [hr.d]
 ·intro x hx
  obtain ⟨i,hi⟩:=List.mem_iff_getElem?.1 hx
  obtain ⟨y,_,hr⟩:=hat i x hi
  exact ⟨by rw [hr.u]; exact wrU_el _,by rw [hr.b]; exact wrC_len _ _ _ _⟩
theorem box_agg (n lv u:Int) (a:Option Addr) (m c:Nat):av [S1 (iv n),S1 (iv lv),Fr 2 [iv u,.slice a m c]]=.agg (Fr 4 [iv n,iv lv,iv u,.slice a m c]).cs.toArray:=rfl
theorem wel_agg (d u:Int) (a:Option Addr) (m c:Nat):av [S1 (iv d),Fr 2 [iv u,.slice a m c]]=.agg (Fr 3 [iv d,iv u,.slice a m c]).cs.toArray:=rfl
theorem box_own {bs:List Bxx} {n lv u:Int} {a:Option Addr} {b:List UInt8} {c k:Nat} {v:Value} {en:A9} (h:Own 91 4 v k (bs.flatMap Bxx.cells++flat [Fr 4 [iv n,iv lv,iv u,.slice a b.length c]]) en):Own 91 4 v k ((bs++[Bxx.mk n lv u b a c]).flatMap Bxx.cells) en:=by rw [Dj]; exact h
theorem wel_own {bs:List Wlc} {d u:Int} {a:Option Addr} {b:List UInt8} {c k:Nat} {v:Value} {en:A9} (h:Own 87 3 v k (bs.flatMap Wlc.cells++flat [Fr 3 [iv d,iv u,.slice a b.length c]]) en):Own 87 3 v k ((bs++[Wlc.mk d u b a c]).flatMap Wlc.cells) en:=by rw [Dj]; exact h
theorem hd_eq {g:Gp} {a:Int} {c:Cm} (h1:c.folder=g.folder) (h2:c.epoch=g.epoch+1) (h3:c.parent=g.last) (h4:c.author=a) (tag:List UInt8) (ls:List Int):If c tag ls=hdF g a tag ls:=by
 have e:(Cb c).take 4=[.int c.folder,.int c.epoch,.text c.parent.b,.int c.author]:=rfl
 unfold If hdF
 rw [e,h1,h2,h3,h4]
theorem c4_ok {c:Cm} (h1:i64 c.folder) (h2:i64 c.epoch) (h3:i64 c.author):okL ((Cb c).take 4):=okL_of fun v hv=>by
 have e:(Cb c).take 4=[.int c.folder,.int c.epoch,.text c.parent.b,.int c.author]:=rfl
 rw [e] at hv
 have:=c.parent.h
 simp only [List.mem_cons,List.not_mem_nil,or_false] at hv
 rcases hv with rfl | rfl | rfl | rfl
 all_goals simp only [Val.ok]
 ·exact h1
 ·exact h2
 ·omega
 ·exact h3
noncomputable abbrev Hf (g:Gp) (author:Int) (ch:List Chg) (leaf:Dig):=Cm.mk g.folder (g.epoch+1) author 0 0 g.last Dig.zero ch ((Ef leaf).map (fun s:Dig=>Iz (Fm s)))
noncomputable abbrev cfB (g:Gp) (author:Int) (ch:List Chg) (leaf ini:Dig) (bs:List Bxx) (ws:List Wlc) (wa pa ba wla:Option Addr) (wc pc bc wlc:Nat):=confK (Ei g leaf ini) (bdyD (Hf g author ch leaf bs ws wa pa ba wla wc pc bc wlc))
noncomputable abbrev cmC (g:Gp) (author:Int) (ch:List Chg) (leaf ini:Dig) (bs:List Bxx) (ws:List Wlc) (wa pa ba wla:Option Addr) (wc pc bc wlc:Nat):=Cm.mk g.folder (g.epoch+1) author 0 0 g.last (cfB g author ch leaf ini bs ws wa pa ba wla wc pc bc wlc) ch ((Ef leaf).map (fun s:Dig=>Iz (Fm s))) bs ws wa pa ba wla wc pc bc wlc
theorem make_spec (g:Gp) (hl:g.ms.length≤10000) (htl:g.tr.l.length≤1000) (htc:g.tr.l.length≤g.tr.c) (author priv:Int) (ca:Option Addr) (cc:Nat) (ch:List Chg) (hcl:ch.length≤1000) (leaf ini seed:Dig):Ay Tryz.prog 21 [av g.segs,iv author,iv priv,.slice ca ch.length cc,dv leaf,dv ini,dv seed] [] (fun w=>GF1 g w∧g.tr.F w∧Sl 5 ch.length (ch.flatMap Chg.cells) (.slice ca ch.length cc) w∧De 1 (Av .u32 B9) w∧De 3 (Av .u32 D1) w∧De 6 (Av .u32 E7) w∧De 0 (labs.map fun s=>.string (Iq s)) w∧True) (fun x:Cm × Dig=>⟨(mdE g author priv ch=0→MkX g author priv ch leaf ini seed x.1 x.2)∧(mdE g author priv ch≠0→x=(cZ,Dig.zero)),.tuple #[av x.1.segs,dv x.2,iv (mdE g author priv ch)],[],fun w=>CF1 x.1 w∧CF2 x.1 w∧CF3 x.1 w∧CF4 x.1 w∧CF5 x.1 w∧CF6 x.1 w∧True⟩):=by
 refine Aj Tryz.func21 Z Z fun X w0=>(Ab (Aa (oj (C6 Z Z (fun r7=>(Al (Am 0 _ _ Z) ?_))))))
 try dsimp only [List.eraseIdx]
 refine oj (Gx Z Z (fun r11=>(Al (Am 0 _ _ Z) ?_)))
 try dsimp only [List.eraseIdx]
 refine oj (Gx Z Z (fun r12=>(oj (Gx Z Z (fun r13=>(Al (Am 0 _ _ Z) ?_))))))
 try dsimp only [List.eraseIdx]
 refine oj (C7 Z zok_37 (fun r14=>(oj (C7 Z Ge (fun r15=>(oj (Ak Z Z (on (qn (Ab (Ab (Aa (oj (A2 (o':=1) Z Z F3 Ai Z (oj (A4 Z Z Ai (fun w h=>Bc.at1 h.2.2.1.1 Z) (oj (gei Z Z Z (on (qn ?_))))))))))))))))))))
 refine A8 Z (fun h0=>?_) (fun h0=>?_)
 ·refine Ab (A5 mo ?_)
  refine Hz (fun hk=>by
    refine Cj (i:=0) (j:=1) (by kernel_rfl) Z Z ?_ ?_
    ·refine (Eb Z Z Bk (.tail _ (.head _)) Z ?_)
     refine Cj (i:=1) (j:=2) (by kernel_rfl) Z Z ?_ ?_
     ·exact (Js Z Z Bb (.head _) Z Z (Ad 2 ((C0 Z Z Bk Z Z (.tail .head) hk))))
     ·refine (C0 Z Z Bk Z Z (.tail .head) (Ad 1 ((Js Z Z Bb (.head _) Z Z ?_))))
      exact B2 2 (by kernel_rfl) (by repeat (first | exact trivial | refine ⟨rfl,?_⟩)) (by rfl) (by rfl) hk
    ·refine (Js Z Z Bb (.head _) Z Z (Ad 0 ((Eb Z Z Bk (.tail _ (.head _)) Z (Ad 2 ((C0 Z Z Bk Z Z (.tail .head) ?_)))))))
     exact B2 2 (by kernel_rfl) (by repeat (first | exact trivial | refine ⟨rfl,?_⟩)) (by rfl) (by rfl) hk) ?_
  exact Ad 3 ((Cf Z Z Bb Z .head (.head Z) Z (Ad 4 ((Ak Z Z (A6 (qn (Af (qr (As (cZ,Dig.zero) Z (.cellW Z Bk (.tail _ (.head _)) Z (Hk Z Bb (.head _) Z (.tmp Z .nil))) (by rw [md1 h0]; rfl) ⟨fun h=>absurd h (by rw [md1 h0]; exact by decide),fun _=>Z⟩ (Bl _) (fun w h=>⟨Be,Be,Be,fun b hb=>(List.not_mem_nil hb).elim,Be,fun b hb=>(List.not_mem_nil hb).elim,tR⟩) (.inl Z)))))))))))
 ·refine Ah (qn (Ab (Aa (oj (Bx Z Z B4 (fun w h=>h.2.2.1.1) Z (oj (mv Z Z (oj (mv Z Z (oj (call Z Z (.cons Z (.cons Z (.cons Z .nil))) fb_37 (Iy g author ca cc ch (by omega) htl htc hcl)  (fun w h=>⟨(Cu h),(Dw h),(Ez h),tR⟩) ?_)))))))))))
  rintro ⟨na,nc⟩ hnc
  try dsimp only at hnc
  try dsimp only
  refine oj (mv Z Z (oj (ext Z Z Z (oj (ext Z Z Z (oj (Ak Z Z (oj (Ak Z Z (on (qn (Ab (Ab (Aa (oj (mv Z Z (oj (G2 Z Z Z (on (qn ?_))))))))))))))))))))
  refine C5 Z (fun h1=>?_) (fun h1=>?_)
  ·refine Ab (A5 mo ?_)
   refine Hz (fun hk=>by
     refine dj_three (i:=0) (j:=1) (n:=2) (by kernel_rfl) Z Z Z ?_ ?_ ?_
     ·refine (Eb Z Z Bk (.tail _ (.head _)) Z ?_)
      refine dj_three (i:=1) (j:=2) (n:=3) (by kernel_rfl) Z Z Z ?_ ?_ ?_
      ·refine (Js Z Z Bb (.head _) Z Z ?_)
       refine Cj (i:=2) (j:=3) (by kernel_rfl) Z Z ?_ ?_
       ·exact (mv Z Z (Ad 3 ((C0 Z Z Bk Z Z (.tail .head) (Ad 4 ((Cf Z Z Bb Z .head (.head Z) Z hk)))))))
       ·refine (C0 Z Z Bk Z Z (.tail .head) ?_)
        refine Cj (i:=2) (j:=4) (by kernel_rfl) Z Z ?_ ?_
        ·refine (mv Z Z (Ad 4 ((Cf Z Z Bb Z .head (.head Z) Z ?_))))
         exact B2 3 (by kernel_rfl) (by repeat (first | exact trivial | refine ⟨rfl,?_⟩)) (by rfl) (by rfl) hk
        ·refine (Cf Z Z Bb Z .head (.head Z) Z (Ad 2 ((mv Z Z ?_))))
         exact B2 3 (by kernel_rfl) (by repeat (first | exact trivial | refine ⟨rfl,?_⟩)) (by rfl) (by rfl) hk
      ·refine (mv Z Z ?_)
       refine Cj (i:=1) (j:=3) (by kernel_rfl) Z Z ?_ ?_
       ·refine (Js Z Z Bb (.head _) Z Z (Ad 3 ((C0 Z Z Bk Z Z (.tail .head) (Ad 4 ((Cf Z Z Bb Z .head (.head Z) Z ?_)))))))
        exact B2 3 (by kernel_rfl) (by repeat (first | exact trivial | refine ⟨rfl,?_⟩)) (by rfl) (by rfl) hk
       ·refine (C0 Z Z Bk Z Z (.tail .head) (Ad 1 ((Js Z Z Bb (.head _) Z Z (Ad 4 ((Cf Z Z Bb Z .head (.head Z) Z ?_)))))))
        exact B2 3 (by kernel_rfl) (by repeat (first | exact trivial | refine ⟨rfl,?_⟩)) (by rfl) (by rfl) hk
      ·refine (C0 Z Z Bk Z Z (.tail .head) ?_)
       refine Cj (i:=1) (j:=2) (by kernel_rfl) Z Z ?_ ?_
       ·refine (Js Z Z Bb (.head _) Z Z ?_)
        refine Cj (i:=2) (j:=4) (by kernel_rfl) Z Z ?_ ?_
        ·refine (mv Z Z (Ad 4 ((Cf Z Z Bb Z .head (.head Z) Z ?_))))
         exact B2 3 (by kernel_rfl) (by repeat (first | exact trivial | refine ⟨rfl,?_⟩)) (by rfl) (by rfl) hk
        ·refine (Cf Z Z Bb Z .head (.head Z) Z (Ad 2 ((mv Z Z ?_))))
         exact B2 3 (by kernel_rfl) (by repeat (first | exact trivial | refine ⟨rfl,?_⟩)) (by rfl) (by rfl) hk
       ·refine (mv Z Z (Ad 1 ((Js Z Z Bb (.head _) Z Z (Ad 4 ((Cf Z Z Bb Z .head (.head Z) Z ?_)))))))
        exact B2 3 (by kernel_rfl) (by repeat (first | exact trivial | refine ⟨rfl,?_⟩)) (by rfl) (by rfl) hk
     ·refine (Js Z Z Bb (.head _) Z Z ?_)
      refine Cj (i:=0) (j:=2) (by kernel_rfl) Z Z ?_ ?_
      ·refine (Eb Z Z Bk (.tail _ (.head _)) Z ?_)
       refine Cj (i:=2) (j:=3) (by kernel_rfl) Z Z ?_ ?_
       ·refine (mv Z Z (Ad 3 ((C0 Z Z Bk Z Z (.tail .head) (Ad 4 ((Cf Z Z Bb Z .head (.head Z) Z ?_)))))))
        exact B2 3 (by kernel_rfl) (by repeat (first | exact trivial | refine ⟨rfl,?_⟩)) (by rfl) (by rfl) hk
       ·refine (C0 Z Z Bk Z Z (.tail .head) ?_)
        refine Cj (i:=2) (j:=4) (by kernel_rfl) Z Z ?_ ?_
        ·refine (mv Z Z (Ad 4 ((Cf Z Z Bb Z .head (.head Z) Z ?_))))
         exact B2 3 (by kernel_rfl) (by repeat (first | exact trivial | refine ⟨rfl,?_⟩)) (by rfl) (by rfl) hk
        ·refine (Cf Z Z Bb Z .head (.head Z) Z (Ad 2 ((mv Z Z ?_))))
         exact B2 3 (by kernel_rfl) (by repeat (first | exact trivial | refine ⟨rfl,?_⟩)) (by rfl) (by rfl) hk
      ·refine (mv Z Z (Ad 0 ((Eb Z Z Bk (.tail _ (.head _)) Z (Ad 3 ((C0 Z Z Bk Z Z (.tail .head) (Ad 4 ((Cf Z Z Bb Z .head (.head Z) Z ?_))))))))))
       exact B2 3 (by kernel_rfl) (by repeat (first | exact trivial | refine ⟨rfl,?_⟩)) (by rfl) (by rfl) hk
     ·refine (mv Z Z ?_)
      refine Cj (i:=0) (j:=1) (by kernel_rfl) Z Z ?_ ?_
      ·refine (Eb Z Z Bk (.tail _ (.head _)) Z ?_)
       refine Cj (i:=1) (j:=3) (by kernel_rfl) Z Z ?_ ?_
       ·refine (Js Z Z Bb (.head _) Z Z (Ad 3 ((C0 Z Z Bk Z Z (.tail .head) (Ad 4 ((Cf Z Z Bb Z .head (.head Z) Z ?_)))))))
        exact B2 3 (by kernel_rfl) (by repeat (first | exact trivial | refine ⟨rfl,?_⟩)) (by rfl) (by rfl) hk
       ·refine (C0 Z Z Bk Z Z (.tail .head) (Ad 1 ((Js Z Z Bb (.head _) Z Z (Ad 4 ((Cf Z Z Bb Z .head (.head Z) Z ?_)))))))
        exact B2 3 (by kernel_rfl) (by repeat (first | exact trivial | refine ⟨rfl,?_⟩)) (by rfl) (by rfl) hk
      ·refine (Js Z Z Bb (.head _) Z Z (Ad 0 ((Eb Z Z Bk (.tail _ (.head _)) Z (Ad 3 ((C0 Z Z Bk Z Z (.tail .head) (Ad 4 ((Cf Z Z Bb Z .head (.head Z) Z ?_))))))))))
       exact B2 3 (by kernel_rfl) (by repeat (first | exact trivial | refine ⟨rfl,?_⟩)) (by rfl) (by rfl) hk) ?_
   exact Ad 5 ((Ak Z Z (A6 (qn (Af (qr (As (cZ,Dig.zero) Z (.cellW Z Bk (.tail _ (.head _)) Z (Hk Z Bb (.head _) Z (.tmp Z .nil))) (by rw [md2 h0 h1]; rfl) ⟨fun h=>absurd h (by rw [md2 h0 h1]; exact h1),fun _=>Z⟩ (Bl _) (fun w h=>⟨Be,Be,Be,fun b hb=>(List.not_mem_nil hb).elim,Be,fun b hb=>(List.not_mem_nil hb).elim,tR⟩) (.inl Z))))))))
  ·obtain ⟨hv,hfm,hps⟩:=ndE_ok h1
   refine Ah (qn (Ab (Aa (oj (mv Z Z (oj (Ao Z Z (.cons Z .nil) fb_25 (J0 priv)  (fun w h=>tR) Z (fun _=>(Ae (fun w h=>h.2) (oj (mv Z Z (oj (ext Z Z Z (oj (ext Z Z Z (oj (Ak Z Z (oj (Ak Z Z (on (qn (Ab (Ab ?_)))))))))))))))))))))))
   refine Aa (oj (mv Z Z (oj (G2 Z Z Z (on (qn ?_))))))
   refine C5 Z (fun h2=>?_) (fun h2=>?_)
   ·refine Ab (A5 mo ?_)
    refine Hz (fun hk=>by
      refine dj_three (i:=0) (j:=1) (n:=2) (by kernel_rfl) Z Z Z ?_ ?_ ?_
      ·refine (Eb Z Z Bk (.tail _ (.head _)) Z ?_)
       refine dj_three (i:=1) (j:=2) (n:=3) (by kernel_rfl) Z Z Z ?_ ?_ ?_
       ·refine (Js Z Z Bb (.head _) Z Z ?_)
        refine Cj (i:=2) (j:=3) (by kernel_rfl) Z Z ?_ ?_
        ·exact (mv Z Z (Ad 3 ((C0 Z Z Bk Z Z (.tail .head) (Ad 4 ((Cf Z Z Bb Z .head (.head Z) Z hk)))))))
        ·refine (C0 Z Z Bk Z Z (.tail .head) ?_)
         refine Cj (i:=2) (j:=4) (by kernel_rfl) Z Z ?_ ?_
         ·refine (mv Z Z (Ad 4 ((Cf Z Z Bb Z .head (.head Z) Z ?_))))
          exact B2 3 (by kernel_rfl) (by repeat (first | exact trivial | refine ⟨rfl,?_⟩)) (by rfl) (by rfl) hk
         ·refine (Cf Z Z Bb Z .head (.head Z) Z (Ad 2 ((mv Z Z ?_))))
          exact B2 3 (by kernel_rfl) (by repeat (first | exact trivial | refine ⟨rfl,?_⟩)) (by rfl) (by rfl) hk
       ·refine (mv Z Z ?_)
        refine Cj (i:=1) (j:=3) (by kernel_rfl) Z Z ?_ ?_
        ·refine (Js Z Z Bb (.head _) Z Z (Ad 3 ((C0 Z Z Bk Z Z (.tail .head) (Ad 4 ((Cf Z Z Bb Z .head (.head Z) Z ?_)))))))
         exact B2 3 (by kernel_rfl) (by repeat (first | exact trivial | refine ⟨rfl,?_⟩)) (by rfl) (by rfl) hk
        ·refine (C0 Z Z Bk Z Z (.tail .head) (Ad 1 ((Js Z Z Bb (.head _) Z Z (Ad 4 ((Cf Z Z Bb Z .head (.head Z) Z ?_)))))))
         exact B2 3 (by kernel_rfl) (by repeat (first | exact trivial | refine ⟨rfl,?_⟩)) (by rfl) (by rfl) hk
       ·refine (C0 Z Z Bk Z Z (.tail .head) ?_)
        refine Cj (i:=1) (j:=2) (by kernel_rfl) Z Z ?_ ?_
        ·refine (Js Z Z Bb (.head _) Z Z ?_)
         refine Cj (i:=2) (j:=4) (by kernel_rfl) Z Z ?_ ?_
         ·refine (mv Z Z (Ad 4 ((Cf Z Z Bb Z .head (.head Z) Z ?_))))
          exact B2 3 (by kernel_rfl) (by repeat (first | exact trivial | refine ⟨rfl,?_⟩)) (by rfl) (by rfl) hk
         ·refine (Cf Z Z Bb Z .head (.head Z) Z (Ad 2 ((mv Z Z ?_))))
          exact B2 3 (by kernel_rfl) (by repeat (first | exact trivial | refine ⟨rfl,?_⟩)) (by rfl) (by rfl) hk
        ·refine (mv Z Z (Ad 1 ((Js Z Z Bb (.head _) Z Z (Ad 4 ((Cf Z Z Bb Z .head (.head Z) Z ?_)))))))
         exact B2 3 (by kernel_rfl) (by repeat (first | exact trivial | refine ⟨rfl,?_⟩)) (by rfl) (by rfl) hk
      ·refine (Js Z Z Bb (.head _) Z Z ?_)
       refine Cj (i:=0) (j:=2) (by kernel_rfl) Z Z ?_ ?_
       ·refine (Eb Z Z Bk (.tail _ (.head _)) Z ?_)
        refine Cj (i:=2) (j:=3) (by kernel_rfl) Z Z ?_ ?_
        ·refine (mv Z Z (Ad 3 ((C0 Z Z Bk Z Z (.tail .head) (Ad 4 ((Cf Z Z Bb Z .head (.head Z) Z ?_)))))))
         exact B2 3 (by kernel_rfl) (by repeat (first | exact trivial | refine ⟨rfl,?_⟩)) (by rfl) (by rfl) hk
        ·refine (C0 Z Z Bk Z Z (.tail .head) ?_)
         refine Cj (i:=2) (j:=4) (by kernel_rfl) Z Z ?_ ?_
         ·refine (mv Z Z (Ad 4 ((Cf Z Z Bb Z .head (.head Z) Z ?_))))
          exact B2 3 (by kernel_rfl) (by repeat (first | exact trivial | refine ⟨rfl,?_⟩)) (by rfl) (by rfl) hk
         ·refine (Cf Z Z Bb Z .head (.head Z) Z (Ad 2 ((mv Z Z ?_))))
          exact B2 3 (by kernel_rfl) (by repeat (first | exact trivial | refine ⟨rfl,?_⟩)) (by rfl) (by rfl) hk
       ·refine (mv Z Z (Ad 0 ((Eb Z Z Bk (.tail _ (.head _)) Z (Ad 3 ((C0 Z Z Bk Z Z (.tail .head) (Ad 4 ((Cf Z Z Bb Z .head (.head Z) Z ?_))))))))))
        exact B2 3 (by kernel_rfl) (by repeat (first | exact trivial | refine ⟨rfl,?_⟩)) (by rfl) (by rfl) hk
      ·refine (mv Z Z ?_)
       refine Cj (i:=0) (j:=1) (by kernel_rfl) Z Z ?_ ?_
       ·refine (Eb Z Z Bk (.tail _ (.head _)) Z ?_)
        refine Cj (i:=1) (j:=3) (by kernel_rfl) Z Z ?_ ?_
        ·refine (Js Z Z Bb (.head _) Z Z (Ad 3 ((C0 Z Z Bk Z Z (.tail .head) (Ad 4 ((Cf Z Z Bb Z .head (.head Z) Z ?_)))))))
         exact B2 3 (by kernel_rfl) (by repeat (first | exact trivial | refine ⟨rfl,?_⟩)) (by rfl) (by rfl) hk
        ·refine (C0 Z Z Bk Z Z (.tail .head) (Ad 1 ((Js Z Z Bb (.head _) Z Z (Ad 4 ((Cf Z Z Bb Z .head (.head Z) Z ?_)))))))
         exact B2 3 (by kernel_rfl) (by repeat (first | exact trivial | refine ⟨rfl,?_⟩)) (by rfl) (by rfl) hk
       ·refine (Js Z Z Bb (.head _) Z Z (Ad 0 ((Eb Z Z Bk (.tail _ (.head _)) Z (Ad 3 ((C0 Z Z Bk Z Z (.tail .head) (Ad 4 ((Cf Z Z Bb Z .head (.head Z) Z ?_))))))))))
        exact B2 3 (by kernel_rfl) (by repeat (first | exact trivial | refine ⟨rfl,?_⟩)) (by rfl) (by rfl) hk) ?_
    exact Ad 5 ((Ak Z Z (A6 (qn (Af (qr (As (cZ,Dig.zero) Z (.cellW Z Bk (.tail _ (.head _)) Z (Hk Z Bb (.head _) Z (.tmp Z .nil))) (by rw [md3 h0 h1 h2]; rfl) ⟨fun h=>absurd h (by rw [md3 h0 h1 h2]; exact h2),fun _=>Z⟩ (Bl _) (fun w h=>⟨Be,Be,Be,fun b hb=>(List.not_mem_nil hb).elim,Be,fun b hb=>(List.not_mem_nil hb).elim,tR⟩) (.inl Z))))))))
   ·have hkv:=puE_kv h2
    refine Ah (qn (Ab (Ab (Aa (oj (mv Z Z (oj (Bx Z Z B4 (fun w h=>(Cu h).1) Z (oj (mv Z Z (oj (mv Z Z (oj (Ao Z Z (.cons Z (.cons Z (.cons Z .nil))) fb_51 (cverify_spec g author ca cc ch hv.ms (by omega) (psB_ne hv.2.2.1 hps))  (fun w h=>⟨(Dw h),(Ec h),tR⟩) Z (fun _=>(Ae (fun w h=>h.2) (oj (G2 Z Z Z (on (qn ?_))))))))))))))))))))
    refine C5 Z (fun h3=>?_) (fun h3=>?_)
    ·refine Ab (A5 mo ?_)
     refine Hz (fun hk=>by
       refine Cj (i:=0) (j:=1) (by kernel_rfl) Z Z ?_ ?_
       ·refine (Eb Z Z Bk (.tail _ (.head _)) Z ?_)
        refine Cj (i:=1) (j:=2) (by kernel_rfl) Z Z ?_ ?_
        ·exact (Js Z Z Bb (.head _) Z Z (Ad 2 ((C0 Z Z Bk Z Z (.tail .head) hk))))
        ·refine (C0 Z Z Bk Z Z (.tail .head) (Ad 1 ((Js Z Z Bb (.head _) Z Z ?_))))
         exact B2 2 (by kernel_rfl) (by repeat (first | exact trivial | refine ⟨rfl,?_⟩)) (by rfl) (by rfl) hk
       ·refine (Js Z Z Bb (.head _) Z Z (Ad 0 ((Eb Z Z Bk (.tail _ (.head _)) Z (Ad 2 ((C0 Z Z Bk Z Z (.tail .head) ?_)))))))
        exact B2 2 (by kernel_rfl) (by repeat (first | exact trivial | refine ⟨rfl,?_⟩)) (by rfl) (by rfl) hk) ?_
     exact Ad 3 ((Cf Z Z Bb Z .head (.head Z) Z (Ad 4 ((Ak Z Z (A6 (qn (Af (qr (As (cZ,Dig.zero) Z (.cellW Z Bk (.tail _ (.head _)) Z (Hk Z Bb (.head _) Z (.tmp Z .nil))) (by rw [md4 h0 h1 h2 h3]; rfl) ⟨fun h=>absurd h (by rw [md4 h0 h1 h2 h3]; exact by decide),fun _=>Z⟩ (Bl _) (fun w h=>⟨Be,Be,Be,fun b hb=>(List.not_mem_nil hb).elim,Be,fun b hb=>(List.not_mem_nil hb).elim,tR⟩) (.inl Z)))))))))))
    ·have hok:MkOk g author priv ch:=⟨by omega,hv,hfm,hps,hkv,by rw [← h3]; unfold puV; rw [if_pos hkv]⟩
     have hll:=Ji leaf
     have hdev:=(new_auth hv hfm (G9.1 hps)).1
     have hdv2:=Bu.1 hdev
     have hvf:=hv.1
     have hvf2:=hv.2.1
     have hve:=hv.2.2.1
     refine Ah (qn (Ab ?_))
     refine Jo (fun (sT:Unit)=>(⟨True,[(1,iv author),(2,iv priv),(3,.slice ca ch.length cc),(7,Bg r7 0),(11,Bg r11 0),(13,Bg r13 0),(14,Bg r14 0),(15,Bg r15 0),(17,.slice na (Hw g author ch).length nc),(12,Bg r12 0)],[bx r15 z_67 67,bx r14 z_37 37,bx r12 [sd (inE g ini)] 67],fun w=>GF1 g w∧g.tr.F w∧Sl 5 ch.length (ch.flatMap Chg.cells) (.slice ca ch.length cc) w∧De 1 (Av .u32 B9) w∧De 3 (Av .u32 D1) w∧De 6 (Av .u32 E7) w∧De 0 (labs.map fun s=>.string (Iq s)) w∧Bc r7 g.segs 29 w∧Bc r11 [sd leaf] 67 w∧Bc r13 [sd seed] 67 w∧Sl 4 (Hw g author ch).length ((Hw g author ch).flatMap Bxx.cells) (.slice na (Hw g author ch).length nc) w∧True,0⟩:Hd)) ?_ ?_
     ·refine Ab (Aa (oj (A2 (o':=1) Z Z F3 Ai Z (oj (A4 Z Z Ai (fun w h=>Bc.at1 (Cu h).1 Z) (oj (Eu Z Z Z (on (qn ?_)))))))))
      refine Fq Z (fun h4=>?_) (fun h4=>?_)
      ·refine Aa (oj (bdzA Z Tryz.underlying67 Bv Ge (Ac (d:=70) (v:=.agg (sd Dig.zero).cs.toArray) Z (by rfl) (oj (Cf Z Z Bb Z (.tail (.tail .head)) (.head Z) Z (on (qn ?_)))))))
       rw [show inE g ini=Dig.zero from if_pos h4]
       exact Dm (()) (tR) (⟨Z,Z,Z,Z,Z,Z,Z,Z,Z,Z,tR⟩) (.refl _) (fun w h=>⟨(Dw h),(Ez h),(Ec h),(Fg h),(Gg h),(Io h),(Ew h),((Cu h).1),(h.2.2.1.1),(h.2.1.1),(h.1.1),tR⟩)
      ·refine Ah (qn ?_)
       rw [show inE g ini=ini from if_neg h4]
       exact Dm (()) (tR) (⟨Z,Z,Z,Z,Z,Z,Z,Z,Z,Z,tR⟩) (.refl _) (fun w h=>⟨(Dw h),(Ez h),(Ec h),(Fg h),(Gg h),(Io h),(Ew h),((Cu h).1),(h.2.2.1.1),(h.2.1.1),(h.1.1),tR⟩)
     rintro _u _
     try dsimp only
     refine Ab (Aa (oj (Bx Z Z Bb (fun w h=>(Gg h)) Z (Ac (d:=71) (v:=dv leaf) Z (by first | rfl | exact av1 _) (oj (call Z Z (.cons Z .nil) fb_23 (ladder_spec leaf)  (fun w h=>⟨(Cu h),(Dw h),tR⟩) ?_))))))
     rintro ⟨la1,lc⟩ hlc
     try dsimp only at hlc
     try dsimp only
     refine Iv (fun w h=>Sl.some (h.1.1) (by omega)) ?_
     rintro ⟨la,hla⟩
     try dsimp only at hla
     subst hla
     refine oj (Ak Z Z (on (qn (Ab (A5 mo (A3 [0,1,2,3] (fun _=>false) (by kernel_rfl) Z Z (.det (dv (inE g ini)) (fun Q K R m k=>(Js Z Z Bb (.tail _ (.tail _ (.head _))) Z Z (B8 (Z) k))) (.det _ (fun Q K R m k=>(mv Z Z k)) (.det _ (fun Q K R m k=>(Fc Z Z Z Tryz.underlying71 Bb (by omega) (fun w h=>⟨la,Z⟩) k)) (.det (dv (D8 leaf 9)) (fun Q K R m k=>(D4 Z Z Bb (by rw [Br]; exact (D8 leaf 9).h) (fun w h=>Cv (h.1.1.1) (by decide) (fun x=>by rw [Br,x.h]) (ladL_at (i:=9) (by omega))) (B8 (Z) k))) (.nil (Ad 4 ((Ao Z Z (.cons Z (.cons Z .nil)) fb_28 (epoch_spec (inE g ini) (D8 leaf 9))  (fun w h=>⟨(Dw h),(Ez h),(Fg h),tR⟩) Z (fun _=>(Ae (fun w h=>h.2) (Ad 5 ((Cf Z Z Bb Z .head (.head Z) Z ?_)))))))))))))))))))
     refine A6 (qn (Ab (A5 mo (A3 [0,1,2,3,4,5,6,7,8,9] (fun j=>Nat.beq j 9) (by kernel_rfl) Z Z (.det _ (fun Q K R m k=>(A2 (o':=0) Z Z fld_29_0 Ai Z k)) (.det _ (fun Q K R m k=>(A4 Z Z Ai (fun w h=>Bc.at1 (Gg h.1) Z) k)) (.det _ (fun Q K R m k=>(A2 (o':=1) Z Z F3 Ai Z k)) (.det _ (fun Q K R m k=>(A4 Z Z Ai (fun w h=>Bc.at1 (Gg h.1) Z) k)) (.det _ (fun Q K R m k=>(add Z Z Z (by omega) k)) (.det _ (fun Q K R m k=>(A2 (o':=2) Z Z fld_29_2 Dc Z k)) (.det (dv g.last) (fun Q K R m k=>(D4 Z Z Dc (sd _).h (fun w h=>Bc.atS (Gg h.1) Z) (B8 (Z) k))) (.det _ (fun Q K R m k=>(mv Z Z k)) (.det _ (fun Q K R m k=>(mv Z Z k)) (.gh (γ:=Value × A9) _ _ (fun x=>[_,_,_]++[x.2]) _ Z (fun Q K R k=>(call Z Z (.cons Z .nil) fb_81 (clone_chg ca ch.length cc ch Z (by omega))  (fun w h=>⟨(Cu h.1),tR⟩) (fun x hx=>Cn (l':=[_,_,_]++[x.2]) List.perm_append_comm (Ae (fun w h=>⟨⟨h.1,h.2.1⟩,h.2.2⟩) (k x hx))))) (fun x=>⟨[x.2],Z⟩) ?_))))))))))))))
     rintro ⟨v87,e87⟩ ho87
     try dsimp only at ho87
     try dsimp only [List.nil_append,List.cons_append]
     obtain ⟨wa,wc,rfl,hwc⟩:=ho87.shape'
     refine .nil (Ad 10 ((bld Z lay_37 (Ch Z Z (.head Z) (Ch Z Z (.tail (.head Z)) (.agg Z (.tail (.tail (.head Z))) (Ch Z Z (.tail (.tail (.tail (.head Z)))) (Ch Z Z (.tail (.tail (.tail (.tail (.head Z))))) .nil))))) (Ad 11 ((C0 Z Z Bk Z Z (.tail .head) (A6 (qn (Ab (Ab (Aa (By (i:=3) Z ho87 (Do (fun _=>Z) _) ?_))))))))))))
     try dsimp only [List.eraseIdx]
     refine Cn (l':=[bx r15 [sd (Ei g leaf ini)] 67,bx r14 (cmS g.folder (g.epoch+1) g.last author wa ch.length wc none 0 0 none 0 0 none 0 0 (Dig.zero) (0) (0)) 37,bx r12 [sd (inE g ini)] 67]) (.refl _) (oj (mv Z Z (oj (Bn Z Z Tryz.underlying71 Z (oj (mv Z Z (on (qn (Ag (Cx (Aw (fun (sT:(Nat) × (Option Addr) × (Nat) × (A9))=>(⟨sT.1≤10∧Own 3 1 (.slice sT.2.1 sT.1 sT.2.2.1) sT.1 ((((Ef leaf).take sT.1).map (fun s:Dig=>Iz (Fm s))).flatMap fun x=>[iv x]) sT.2.2.2,[(1,iv author),(2,iv priv),(3,.slice ca ch.length cc),(7,Bg r7 0),(11,Bg r11 0),(13,Bg r13 0),(14,Bg r14 0),(15,Bg r15 0),(17,.slice na (Hw g author ch).length nc),(19,.slice (some la) (Ef leaf).length lc),(89,.slice (some la) (Ef leaf).length lc),(90,iv (Ef leaf).length),(91,iv (sT.1:Int))],[sT.2.2.2,bx r15 [sd (Ei g leaf ini)] 67,bx r14 (cmS g.folder (g.epoch+1) g.last author wa ch.length wc sT.2.1 sT.1 sT.2.2.1 none 0 0 none 0 0 (Dig.zero) (0) (0)) 37],fun w=>GF1 g w∧g.tr.F w∧Sl 5 ch.length (ch.flatMap Chg.cells) (.slice ca ch.length cc) w∧De 1 (Av .u32 B9) w∧De 3 (Av .u32 D1) w∧De 6 (Av .u32 E7) w∧De 0 (labs.map fun s=>.string (Iq s)) w∧Bc r7 g.segs 29 w∧Bc r11 [sd leaf] 67 w∧Bc r13 [sd seed] 67 w∧Sl 4 (Hw g author ch).length ((Hw g author ch).flatMap Bxx.cells) (.slice na (Hw g author ch).length nc) w∧Sl 32 (Ef leaf).length ((Ef leaf).flatMap fun x:Dig=>An x.b) (.slice (some la) (Ef leaf).length lc) w∧Sl 5 ch.length (ch.flatMap Chg.cells) (.slice wa ch.length wc) w∧True,10-sT.1⟩:Hd)) (0,none,0,none) (⟨Nat.zero_le _,.nil⟩) (⟨Z,Z,Z,Z,Z,Z,Z,Z,Z,Z,Z,Z,Z,tR⟩) (.cons_cons _ (.cons_cons _ (.cons_cons _ (Bl _)))) (fun w h=>⟨(Cu h),(Dw h),(Ez h),(Ec h),(Fg h),(Gg h),(Io h),(Ew h),(Fh h),(Ev h),(Jr h),(h.2.2.1.1),(h.1.1),tR⟩) ?_)))))))))))
     rintro ⟨i,pa,pc,en⟩ ⟨hi,ho⟩
     try dsimp only
     try dsimp only at hi ho
     refine Ab (Aa (oj (Dd Z Z Z (on (qn (Ab ?_))))))
     refine A8 Z (fun ht=>?_) (fun hf=>?_)
     ·obtain ⟨x,hx⟩:∃ x,(Ef leaf)[i]? = some x:=⟨_,List.getElem?_eq_getElem (by omega)⟩
      refine Ah (qn (Ab (Ag (Ab (Aa (oj (Fc Z Z Z Tryz.underlying71 Bb (by omega) (fun w h=>⟨la,Z⟩) (oj (D4 Z Z Bb (by rw [Br]; exact x.h) (fun w h=>Cv (Fh h) (by decide) (fun x=>by rw [Br,x.h]) hx) (Ac (d:=94) (v:=dv x) Z Z (oj (C7 Z Ge (fun r21=>(oj (Cf Z Z Bb Z .head (.head Z) Z (on (qn (Ab (Aa (oj (Js Z Z Bb (.head _) Z Z ?_)))))))))))))))))))))
      refine Ac (d:=96) (v:=dv x) Z (by first | rfl | exact av1 _) (oj (Ao Z Z (.cons Z .nil) fb_26 (private_spec x)  (fun w h=>⟨(Cu h),(Dw h),tR⟩) Z (fun _=>(Ae (fun w h=>h.2) (oj (Ao Z Z (.cons Z .nil) fb_25 (J0 (Fm x))  (fun w h=>tR) Z (fun _=>(Ae (fun w h=>h.2) (oj (mv Z Z (oj (ext Z Z Z (Ac (d:=99) (v:=iv (Iz (Fm x))) Z (by rw [pu_priv]; rfl) (oj (ext Z Z Z (oj (Ak Z Z (oj (Ak Z Z (on (qn (Aa (oj (A2 (o':=36) Z Z Gn Eg Z (oj (Bh Z Z Eg (.tail _ (.tail _ (.tail _ (.head _)))) (Z) ?_))))))))))))))))))))))))))
      refine oj (mv Z Z (oj (F7 Z Tryz.underlying31 Ai Gd (C3 (v:=iv (Iz (Fm x))) Z Z .nil) (by repeat (first | exact List.forall_mem_nil _ | refine List.forall_mem_cons.2 ⟨rfl,?_⟩)) Z (by decide) Z (fun r104=>?_))))
      refine Al (Am 0 _ _ Z) ?_
      try dsimp only [List.eraseIdx]
      refine oj (Ku Z Z Z el_31 (by kernel_rfl) ho (i:=1) Z (fun w ho h=>Bc.src (h.1.1) Z) (by omega) (by simp only [maxLen]; omega) (fun v105 e105 ho105=>?_))
      try dsimp only [List.set]
      obtain ⟨va105,vc105,hv105,hc105⟩:=ho105.shape'
      subst hv105
      exact oj (A2 (o':=36) Z Z Gn Eg Z (oj (Cr Z Z Eg Z (.tail (.tail (.tail .head))) (.tail (.tail (.tail (.tail (.tail (.head Z)))))) Z (on (bn (qn (Aa (oj (add Z Z Z (by omega) (oj (mv Z Z (on (qn (Ar (i+1,va105,vc105,e105) (by dsimp only; omega) (⟨by (try dsimp only); omega,by rw [A7 hx,List.map_append]; show Own 3 1 _ _ ((((Ef leaf).take i).map _++[Iz (Fm x)]).flatMap _) _; rw [Dj]; exact ho105⟩) (⟨Z,Z,Z,Z,Z,Z,Z,Z,Z,Z,Z,Z,Z,tR⟩) (.cons _ (.refl _)) (fun w h=>⟨(h.2.1),(h.2.2.1),(Cu h),(Dw h),(Ez h),(Ec h),(Fg h),(Gg h),(Io h),(Ew h),(Fh h),(Ev h),(Jr h),tR⟩)))))))))))))))
     ·have h4:i=10:=by omega
      subst h4
      rw [List.take_of_length_le (by omega)] at ho
      have hpl:((Ef leaf).map (fun s:Dig=>Iz (Fm s))).length=10:=by rw [List.length_map,hll]
      rw [← hpl] at ho
      refine A1 (qe (qe (be (qn (Ab (Aa (By (i:=0) Z ho (fi_one _) ?_)))))))
      try dsimp only [List.eraseIdx]
      refine oj (Bx Z Z B4 (fun w h=>(Gg h)) Z (oj (mv Z Z (oj (call Z Z (.cons Z (.cons Z .nil)) fb_54 (renewed_spec g htc ca cc ch (by omega) hfm.el)  (fun w h=>⟨(h.2.2.1),(Cu h),tR⟩) ?_)))))
      rintro ⟨rl,ra,rc⟩ ⟨hrl,hrc,hrn⟩
      try dsimp only at hrl hrc hrn
      try dsimp only
      subst hrl
      refine oj (C7 Z Ja (fun r24=>(oj (C0 Z Z B1 Z Z .head (on (qn (Ab (Ab (Aa (Al (Am 0 _ _ Z) ?_))))))))))
      try dsimp only [List.eraseIdx]
      refine oj (mv Z Z (oj (Bn Z Z Tryz.underlying32 Z (oj (mv Z Z (on (qn (Ag (Cx (Aw (fun (sT:(Nat) × (List Bxx) × (Option Addr) × (Nat) × (A9))=>(⟨sT.1≤(Hw g author ch).length∧sT.2.1.length=sT.1∧(∀ (j:Nat) x y,sT.2.1[j]? = some x→(Hw g author ch)[j]? = some y→BxR g author ch leaf seed x y)∧Own 91 4 (.slice sT.2.2.1 sT.1 sT.2.2.2.1) sT.1 (sT.2.1.flatMap Bxx.cells) sT.2.2.2.2,[(1,iv author),(2,iv priv),(3,.slice ca ch.length cc),(7,Bg r7 0),(11,Bg r11 0),(13,Bg r13 0),(14,Bg r14 0),(15,Bg r15 0),(17,.slice na (Hw g author ch).length nc),(19,.slice (some la) (Ef leaf).length lc),(24,Bg r24 0),(111,.slice na (Hw g author ch).length nc),(112,iv (Hw g author ch).length),(113,iv (sT.1:Int))],[sT.2.2.2.2,bx r15 [sd (Ei g leaf ini)] 67,bx r14 (cmS g.folder (g.epoch+1) g.last author wa ch.length wc pa ((Ef leaf).map (fun s:Dig=>Iz (Fm s))).length pc sT.2.2.1 sT.1 sT.2.2.2.1 none 0 0 (Dig.zero) (0) (0)) 37],fun w=>GF1 g w∧g.tr.F w∧Sl 5 ch.length (ch.flatMap Chg.cells) (.slice ca ch.length cc) w∧De 1 (Av .u32 B9) w∧De 3 (Av .u32 D1) w∧De 6 (Av .u32 E7) w∧De 0 (labs.map fun s=>.string (Iq s)) w∧Bc r7 g.segs 29 w∧Bc r11 [sd leaf] 67 w∧Bc r13 [sd seed] 67 w∧Sl 4 (Hw g author ch).length ((Hw g author ch).flatMap Bxx.cells) (.slice na (Hw g author ch).length nc) w∧Sl 32 (Ef leaf).length ((Ef leaf).flatMap fun x:Dig=>An x.b) (.slice (some la) (Ef leaf).length lc) w∧Sl 5 ch.length (ch.flatMap Chg.cells) (.slice wa ch.length wc) w∧Sl 1 ((Ef leaf).map (fun s:Dig=>Iz (Fm s))).length (((Ef leaf).map (fun s:Dig=>Iz (Fm s))).flatMap (fun x=>[iv x])) (.slice pa ((Ef leaf).map (fun s:Dig=>Iz (Fm s))).length pc) w∧Tr.F ⟨(Hh g.tr.l ch),ra,rc⟩ w∧Bc r24 [S1 (.slice ra (Hh g.tr.l ch).length rc)] 27 w∧CFb sT.2.1 w∧True,(Hw g author ch).length-sT.1⟩:Hd)) (0,[],none,0,none) (⟨Nat.zero_le _,Z,fun j x y h=>by simp at h,.nil⟩) (⟨Z,Z,Z,Z,Z,Z,Z,Z,Z,Z,Z,Z,Z,Z,tR⟩) (.refl _) (fun w h=>⟨(Cu h),(Dw h),(Ez h),(Ec h),(Fg h),(Gg h),(Io h),(Ew h),(Fh h),(Ev h),(Jr h),(Ij h),(pQ15 h),(h.2.2.1.1),(h.2.1.1),(h.1.1),fun b hb=>(List.not_mem_nil hb).elim,tR⟩) ?_))))))))))
      rintro ⟨i,bs,ba,bc,en⟩ ⟨hi,hlen,hbr,ho0⟩
      try dsimp only
      try dsimp only at hi hlen hbr ho0
      subst hlen
      refine Ab (Aa (oj (Dd Z Z Z (on (qn (Ab ?_))))))
      refine A8 Z (fun ht=>?_) (fun hf=>?_)
      ·obtain ⟨y,hy⟩:∃ y,(Hw g author ch)[bs.length]? = some y:=⟨_,List.getElem?_eq_getElem (by omega)⟩
       obtain ⟨k1,k2,k3,k4,p4,hp4,hpe⟩:=nd_in hok (List.mem_of_getElem? hy)
       have hel:el (vI (ofF (Hh g.tr.l ch) y.n))=true:=by rw [hp4]; exact hpe
       have hi2:∀ n∈[y.lv,y.n],i64 n:=fun n hn=>by
        simp only [List.mem_cons,List.not_mem_nil,or_false] at hn
        rcases hn with rfl | rfl <;> (unfold i64; omega)
       have hnl:=nd_len hok
       have hcb:CmB (Hf g author ch leaf bs [] wa pa ba none wc pc bc 0):=⟨hcl,by (try dsimp only); omega,by (try dsimp only); omega,Nat.zero_le _⟩
       have hc4:okL ((Cb (Hf g author ch leaf bs [] wa pa ba none wc pc bc 0)).take 4):=c4_ok (by (try dsimp only); unfold i64; omega) (by (try dsimp only); unfold i64; omega) (by (try dsimp only); unfold i64; omega)
       refine Ah (qn (Ab (Ag (Ab (Aa (oj (Fc Z Z Z Tryz.underlying32 E1 (by omega) (fun w h=>Sl.some (Ew h) (by omega)) (oj (D4 Z Z E1 Z (fun w h=>Cv (Ew h) (by decide) (fun _=>Z) hy) (Ac (d:=116) (v:=av y.segs) Z Z (oj (C7 Z I9 (fun r26=>(oj (C0 Z Z E1 Z Z .head (on (qn (Ab (Aa (oj (Bx Z Z B1 (fun w h=>(pQ15 h)) Z ?_)))))))))))))))))))))
       refine oj (A2 (o':=0) Z Z Hc Ai Z (oj (Bh Z Z Ai (.head _) (Z) (oj (Ao Z Z (.cons Z (.cons Z .nil)) fb_27 (tpublic_spec ⟨(Hh g.tr.l ch),ra,rc⟩ (by (try dsimp only at hrn); (try dsimp only); omega) y.n)  (fun w h=>⟨(Ij h),tR⟩) Z (fun _=>(Ae (fun w h=>h.2) (oj (mv Z Z (oj (ext Z Z Z (oj (ext Z Z Z (oj (Ak Z Z (oj (Ak Z Z (on (qn (Ab (A5 mo (dj_either [0,1,2,3,4,5,8,9,10,11,12,15,16,17,18,19] [6,7,13,14] [13,6,7,14] (fun j=>Nat.beq j 6 || Nat.beq j 13 || Nat.beq j 14) 6 13 (by kernel_rfl) Z Z (.det _ (fun Q K R m k=>(mv Z Z k)) (.det (dv seed) (fun Q K R m k=>(Bx Z Z Bb (fun w h=>(Io h.1)) Z (B8 (av1 _) k))) ?_))))))))))))))))))))))))
       refine .det _ (fun Q K R m k=>(A2 (o':=1) Z Z Hb Ai Z k)) (.det _ (fun Q K R m k=>(Bh Z Z Ai (.head _) (Z) k)) (.det _ (fun Q K R m k=>(A2 (o':=0) Z Z Hc Ai Z k)) (.det _ (fun Q K R m k=>(Bh Z Z Ai (.head _) (Z) k)) (.det _ (fun Q K R m k=>(Eb Z Z Bk (.tail _ (.tail _ (.tail _ (.head _)))) Z k)) (.det _ (fun Q K R m k=>(A2 (o':=1) Z Z Hb Ai Z k)) (.det _ (fun Q K R m k=>(Bh Z Z Ai (.head _) (Z) k)) (.det _ (fun Q K R m k=>(A2 (o':=0) Z Z Hc Ai Z k)) (.det _ (fun Q K R m k=>(Bh Z Z Ai (.head _) (Z) k)) (.det _ (fun Q K R m k=>(mv Z Z k)) (.det _ (fun Q K R m k=>(A2 (o':=1) Z Z Hb Ai Z k)) (.det _ (fun Q K R m k=>(Bh Z Z Ai (.head _) (Z) k)) (.det _ (fun Q K R m k=>(Fc Z Z Z Tryz.underlying71 Bb (by omega) (fun w h=>⟨la,Z⟩) k)) (.det (.slice (some (la.add (y.lv.toNat*32))) (D8 leaf y.lv.toNat).b.length 32) (fun Q K R m k=>(slp Z Z Tryz.underlying67 Bv Z Z (.inl Z) Z (B8 (by rw [(D8 leaf y.lv.toNat).h]; simp [Addr.add]) k))) ?_)))))))))))))
       refine .nil ⟨?_,?_⟩
       ·refine .gh (γ:=Nat) (fun _=>True) _ _ _ Z (fun Q K R k=>(F7 Z Tryz.underlying31 Ai Gd (C3 (v:=iv y.lv) Z Z (C3 (v:=iv y.n) Z Z .nil)) (by repeat (first | exact List.forall_mem_nil _ | refine List.forall_mem_cons.2 ⟨rfl,?_⟩)) Z (by decide) Z (fun r131=>Al (.refl _) (Ae (fun w h=>⟨⟨h.1,h.2.1⟩,h.2.2⟩) (k r131 tR))))) (fun _=>by exact ⟨[],by simp⟩) ?_
        rintro r131 _
        try dsimp only [List.nil_append,List.cons_append]
        refine .det _ (fun Q K R m k=>(Ao Z Z (.cons Z (.cons Z (.cons Z .nil))) fb_83 (F5 seed Bz [y.lv,y.n] (some ⟨r131,0,none⟩) 2 (by decide) (by simp) hi2)  (fun w h=>⟨Ee (h.1.1.1) Z Z,(Dw h.1),(Ez h.1),tR⟩) Z (fun _=>Ae (fun w h=>h.2) k))) (.gh (γ:=Nat) (fun _=>True) _ _ _ Z (fun Q K R k=>(F7 Z Tryz.underlying31 Ai Gd (C3 (v:=iv y.lv) Z Z (C3 (v:=iv y.n) Z Z .nil)) (by repeat (first | exact List.forall_mem_nil _ | refine List.forall_mem_cons.2 ⟨rfl,?_⟩)) Z (by decide) Z (fun r138=>Al (.refl _) (Ae (fun w h=>⟨⟨h.1,h.2.1⟩,h.2.2⟩) (k r138 tR))))) (fun _=>by exact ⟨[],by simp⟩) ?_)
        rintro r138 _
        try dsimp only [List.nil_append,List.cons_append]
        refine .gh (γ:=Nat) _ _ (fun _=>_) _ Z (fun Q K R k=>callLO [_] Z Z (.cons Z (.cons Z (.cons Z .nil))) fb_84 (Am 1 _ _ Z) (chead_spec (Hf g author ch leaf bs [] wa pa ba none wc pc bc 0) hcb hc4 Bz (by decide) [y.lv,y.n] (some ⟨r138,0,none⟩) 2 (by simp) hi2) (fun _=>Z) (fun w ho h=>⟨(Ij h.1),(pQ15 h.1),ho0.sl (Do (fun _=>Z) _) ho,(pQ18 h.1),Be,fun b hb=>(List.not_mem_nil hb).elim,Ee (h.1.1.1) Z Z,(Ez h.1),(Ec h.1),tR⟩) (fun x hx=>Al (.refl _) (Ae (fun w h=>⟨⟨h.1,h.2.1⟩,h.2.2⟩) (k x hx)))) (fun _=>by exact ⟨[],by simp⟩) ?_
        rintro r139 _
        try dsimp only
        refine .nil (Ad 20 ((callLO [] Z Z (.cons Z (.cons Z (.cons Z (.cons Z .nil)))) fb_82 (.refl _) (wwrap_spec (vI (ofF (Hh g.tr.l ch) y.n)) hel (Eh seed Bz [y.lv,y.n]) (If (Hf g author ch leaf bs [] wa pa ba none wc pc bc 0) Bz [y.lv,y.n]).b (some ⟨r139,0,none⟩) 32 (by rw [(If (Hf g author ch leaf bs [] wa pa ba none wc pc bc 0) Bz [y.lv,y.n]).h]; decide) (D8 leaf y.lv.toNat).b (la.add (y.lv.toNat*32)) 32 (Iw _).1 (by rw [(D8 leaf y.lv.toNat).h]; decide)) (fun _=>Z) (fun w ho h=>⟨Gs (h.1.1),lad_sl (Ij h) (by omega),(Ec h),(Fg h),(Gg h),tR⟩) ?_)))
        rintro ⟨⟨wa2,wc2⟩,we⟩ hx
        try dsimp only [List.nil_append,List.cons_append]
        refine By (i:=0) Z hx (Co _) ?_
        try dsimp only [List.eraseIdx]
        refine Ad 21 ((mv Z Z ?_))
        refine Hz (fun hk=>by
          refine Cj (i:=22) (j:=23) (by kernel_rfl) Z Z ?_ ?_
          ·refine (ext Z Z Z (Ac (d:=146) (v:=.agg (Fr 2 [iv (J4 (Eh seed Bz [y.lv,y.n])),.slice wa2 (Jt (vI (ofF (Hh g.tr.l ch) y.n)) (Eh seed Bz [y.lv,y.n]) (If (Hf g author ch leaf bs [] wa pa ba none wc pc bc 0) Bz [y.lv,y.n]).b (D8 leaf y.lv.toNat).b).length wc2]).cs.toArray) Z (by rfl) ?_))
           refine Cj (i:=23) (j:=24) (by kernel_rfl) Z Z ?_ ?_
           ·exact (ext Z Z Z (Ad 24 ((A2 (o':=2) Z Z Fi Ct Z (Ad 25 ((Cf (s:=Fr 2 [iv (J4 (Eh seed Bz [y.lv,y.n])),.slice wa2 (Jt (vI (ofF (Hh g.tr.l ch) y.n)) (Eh seed Bz [y.lv,y.n]) (If (Hf g author ch leaf bs [] wa pa ba none wc pc bc 0) Bz [y.lv,y.n]).b (D8 leaf y.lv.toNat).b).length wc2]) Z Z Ct Z .head (.tail (.tail (.head (show (2:Nat)=2 from Z)))) Z hk)))))))
           ·refine (A2 (o':=2) Z Z Fi Ct Z ?_)
            refine Cj (i:=23) (j:=25) (by kernel_rfl) Z Z ?_ ?_
            ·refine (ext Z Z Z (Ad 25 ((Cf (s:=Fr 2 [iv (J4 (Eh seed Bz [y.lv,y.n])),.slice wa2 (Jt (vI (ofF (Hh g.tr.l ch) y.n)) (Eh seed Bz [y.lv,y.n]) (If (Hf g author ch leaf bs [] wa pa ba none wc pc bc 0) Bz [y.lv,y.n]).b (D8 leaf y.lv.toNat).b).length wc2]) Z Z Ct Z .head (.tail (.tail (.head (show (2:Nat)=2 from Z)))) Z ?_))))
             exact B2 4 (by kernel_rfl) (by repeat (first | exact trivial | refine ⟨rfl,?_⟩)) (by rfl) (by rfl) hk
            ·refine (Cf (s:=Fr 2 [iv (J4 (Eh seed Bz [y.lv,y.n])),.slice wa2 (Jt (vI (ofF (Hh g.tr.l ch) y.n)) (Eh seed Bz [y.lv,y.n]) (If (Hf g author ch leaf bs [] wa pa ba none wc pc bc 0) Bz [y.lv,y.n]).b (D8 leaf y.lv.toNat).b).length wc2]) Z Z Ct Z .head (.tail (.tail (.head (show (2:Nat)=2 from Z)))) Z (Ad 23 ((ext Z Z Z ?_))))
             exact B2 4 (by kernel_rfl) (by repeat (first | exact trivial | refine ⟨rfl,?_⟩)) (by rfl) (by rfl) hk
          ·refine (ext Z Z Z (Ad 22 ((ext Z Z Z (Ac (d:=146) (v:=.agg (Fr 2 [iv (J4 (Eh seed Bz [y.lv,y.n])),.slice wa2 (Jt (vI (ofF (Hh g.tr.l ch) y.n)) (Eh seed Bz [y.lv,y.n]) (If (Hf g author ch leaf bs [] wa pa ba none wc pc bc 0) Bz [y.lv,y.n]).b (D8 leaf y.lv.toNat).b).length wc2]).cs.toArray) Z (by rfl) (Ad 24 ((A2 (o':=2) Z Z Fi Ct Z (Ad 25 ((Cf (s:=Fr 2 [iv (J4 (Eh seed Bz [y.lv,y.n])),.slice wa2 (Jt (vI (ofF (Hh g.tr.l ch) y.n)) (Eh seed Bz [y.lv,y.n]) (If (Hf g author ch leaf bs [] wa pa ba none wc pc bc 0) Bz [y.lv,y.n]).b (D8 leaf y.lv.toNat).b).length wc2]) Z Z Ct Z .head (.tail (.tail (.head (show (2:Nat)=2 from Z)))) Z ?_)))))))))))
           exact B2 4 (by kernel_rfl) (by repeat (first | exact trivial | refine ⟨rfl,?_⟩)) (by rfl) (by rfl) hk) ?_
        refine A6 (qn (Aa (oj (A2 (o':=37) Z Z D7 Db Z (oj (Bh Z Z Db (.tail _ (.tail _ (.tail _ (.head _)))) (Z) (oj (Eb Z Z E1 (.head _) Z (Ac (d:=151) (v:=.agg (Fr 4 [iv y.n,iv y.lv,iv (J4 (Eh seed Bz [y.lv,y.n])),.slice wa2 (Jt (vI (ofF (Hh g.tr.l ch) y.n)) (Eh seed Bz [y.lv,y.n]) (If (Hf g author ch leaf bs [] wa pa ba none wc pc bc 0) Bz [y.lv,y.n]).b (D8 leaf y.lv.toNat).b).length wc2]).cs.toArray) Z (by exact box_agg _ _ _ _ _ _) (oj (F7 Z Tryz.underlying32 E1 I9 (.agg (s:=Fr 4 [iv y.n,iv y.lv,iv (J4 (Eh seed Bz [y.lv,y.n])),.slice wa2 (Jt (vI (ofF (Hh g.tr.l ch) y.n)) (Eh seed Bz [y.lv,y.n]) (If (Hf g author ch leaf bs [] wa pa ba none wc pc bc 0) Bz [y.lv,y.n]).b (D8 leaf y.lv.toNat).b).length wc2]) Z .nil) (by repeat (first | exact List.forall_mem_nil _ | refine List.forall_mem_cons.2 ⟨rfl,?_⟩)) Z (by decide) Z (fun r152=>?_))))))))))))
        refine Al (Am 0 _ _ Z) ?_
        try dsimp only [List.eraseIdx]
        refine oj (Ku Z Z Z el_32 (by kernel_rfl) ho0 (i:=1) Z (fun w ho h=>Bc.src (h.1.1) Z) (by omega) (by simp only [maxLen]; omega) (fun v153 e153 ho153=>?_))
        try dsimp only [List.set]
        obtain ⟨va153,vc153,hv153,hc153⟩:=ho153.shape'
        subst hv153
        exact oj (A2 (o':=37) Z Z D7 Db Z (oj (Cr Z Z Db Z (.tail (.tail (.tail .head))) (.tail (.tail (.tail (.tail (.tail (.tail (.head Z))))))) Z (on (bn (qn (Aa (oj (add Z Z Z (by omega) (oj (mv Z Z (on (qn (Ar (bs.length+1,bs++[(Bxx.mk y.n y.lv (J4 (Eh seed Bz [y.lv,y.n])) (Jt (vI (ofF (Hh g.tr.l ch) y.n)) (Eh seed Bz [y.lv,y.n]) (If (Hf g author ch leaf bs [] wa pa ba none wc pc bc 0) Bz [y.lv,y.n]).b (D8 leaf y.lv.toNat).b) wa2 wc2)],va153,vc153,e153) (by dsimp only; omega) (⟨by (try dsimp only); omega,by simp,snoc_rel hbr hy ⟨Z,Z,by dsimp only,by (try dsimp only); rw [hd_eq (g:=g) (a:=author) rfl rfl rfl rfl]⟩,box_own ho153⟩) (⟨Z,Z,Z,Z,Z,Z,Z,Z,Z,Z,Z,Z,Z,Z,tR⟩) (.cons _ (.refl _)) (fun w h=>⟨(Ez h),(Ec h),(Fg h),(Gg h),(Io h),(Ew h),(Fh h),(Ev h),(Jr h),(Ij h),(pQ15 h),(pQ16 h),(pQ17 h),(pQ18 h),(pQ19 h),(pQ20 h),CFb.snoc (pQ21 h) (h.2.1.1),tR⟩)))))))))))))))
       ·refine .gh (γ:=Nat) (fun _=>True) _ _ _ Z (fun Q K R k=>(F7 Z Tryz.underlying31 Ai Gd (C3 (v:=iv y.lv) Z Z (C3 (v:=iv y.n) Z Z .nil)) (by repeat (first | exact List.forall_mem_nil _ | refine List.forall_mem_cons.2 ⟨rfl,?_⟩)) Z (by decide) Z (fun r138=>Al (.refl _) (Ae (fun w h=>⟨⟨h.1,h.2.1⟩,h.2.2⟩) (k r138 tR))))) (fun _=>by exact ⟨[],by simp⟩) ?_
        rintro r138 _
        try dsimp only [List.nil_append,List.cons_append]
        refine .gh (γ:=Nat) (fun _=>True) _ _ _ Z (fun Q K R k=>(F7 Z Tryz.underlying31 Ai Gd (C3 (v:=iv y.lv) Z Z (C3 (v:=iv y.n) Z Z .nil)) (by repeat (first | exact List.forall_mem_nil _ | refine List.forall_mem_cons.2 ⟨rfl,?_⟩)) Z (by decide) Z (fun r131=>Al (.refl _) (Ae (fun w h=>⟨⟨h.1,h.2.1⟩,h.2.2⟩) (k r131 tR))))) (fun _=>by exact ⟨[],by simp⟩) ?_
        rintro r131 _
        try dsimp only [List.nil_append,List.cons_append]
        refine .det _ (fun Q K R m k=>(Ao Z Z (.cons Z (.cons Z (.cons Z .nil))) fb_83 (F5 seed Bz [y.lv,y.n] (some ⟨r131,0,none⟩) 2 (by decide) (by simp) hi2)  (fun w h=>⟨Ee (h.1.1.1) Z Z,(Ez h.1),(Ec h.1),tR⟩) Z (fun _=>Ae (fun w h=>h.2) k))) (.gh (γ:=Nat) _ _ (fun _=>_) _ Z (fun Q K R k=>callLO [_] Z Z (.cons Z (.cons Z (.cons Z .nil))) fb_84 (Am 1 _ _ Z) (chead_spec (Hf g author ch leaf bs [] wa pa ba none wc pc bc 0) hcb hc4 Bz (by decide) [y.lv,y.n] (some ⟨r138,0,none⟩) 2 (by simp) hi2) (fun _=>Z) (fun w ho h=>⟨(Ij h.1),(pQ15 h.1),ho0.sl (Do (fun _=>Z) _) ho,(pQ18 h.1),Be,fun b hb=>(List.not_mem_nil hb).elim,Ee (h.1.2.1.1) Z Z,(Ez h.1),(Ec h.1),tR⟩) (fun x hx=>Al (.refl _) (Ae (fun w h=>⟨⟨h.1,h.2.1⟩,h.2.2⟩) (k x hx)))) (fun _=>by exact ⟨[],by simp⟩) ?_)
        rintro r139 _
        try dsimp only
        refine .nil (Ad 20 ((callLO [] Z Z (.cons Z (.cons Z (.cons Z (.cons Z .nil)))) fb_82 (.refl _) (wwrap_spec (vI (ofF (Hh g.tr.l ch) y.n)) hel (Eh seed Bz [y.lv,y.n]) (If (Hf g author ch leaf bs [] wa pa ba none wc pc bc 0) Bz [y.lv,y.n]).b (some ⟨r139,0,none⟩) 32 (by rw [(If (Hf g author ch leaf bs [] wa pa ba none wc pc bc 0) Bz [y.lv,y.n]).h]; decide) (D8 leaf y.lv.toNat).b (la.add (y.lv.toNat*32)) 32 (Iw _).1 (by rw [(D8 leaf y.lv.toNat).h]; decide)) (fun _=>Z) (fun w ho h=>⟨Gs (h.1.1),lad_sl (Ij h) (by omega),(Ec h),(Fg h),(Gg h),tR⟩) ?_)))
        rintro ⟨⟨wa2,wc2⟩,we⟩ hx
        try dsimp only [List.nil_append,List.cons_append]
        refine By (i:=0) Z hx (Co _) ?_
        try dsimp only [List.eraseIdx]
        refine Ad 21 ((mv Z Z ?_))
        refine Hz (fun hk=>by
          refine Cj (i:=22) (j:=23) (by kernel_rfl) Z Z ?_ ?_
          ·refine (ext Z Z Z (Ac (d:=146) (v:=.agg (Fr 2 [iv (J4 (Eh seed Bz [y.lv,y.n])),.slice wa2 (Jt (vI (ofF (Hh g.tr.l ch) y.n)) (Eh seed Bz [y.lv,y.n]) (If (Hf g author ch leaf bs [] wa pa ba none wc pc bc 0) Bz [y.lv,y.n]).b (D8 leaf y.lv.toNat).b).length wc2]).cs.toArray) Z (by rfl) ?_))
           refine Cj (i:=23) (j:=24) (by kernel_rfl) Z Z ?_ ?_
           ·exact (ext Z Z Z (Ad 24 ((A2 (o':=2) Z Z Fi Ct Z (Ad 25 ((Cf (s:=Fr 2 [iv (J4 (Eh seed Bz [y.lv,y.n])),.slice wa2 (Jt (vI (ofF (Hh g.tr.l ch) y.n)) (Eh seed Bz [y.lv,y.n]) (If (Hf g author ch leaf bs [] wa pa ba none wc pc bc 0) Bz [y.lv,y.n]).b (D8 leaf y.lv.toNat).b).length wc2]) Z Z Ct Z .head (.tail (.tail (.head (show (2:Nat)=2 from Z)))) Z hk)))))))
           ·refine (A2 (o':=2) Z Z Fi Ct Z ?_)
            refine Cj (i:=23) (j:=25) (by kernel_rfl) Z Z ?_ ?_
            ·refine (ext Z Z Z (Ad 25 ((Cf (s:=Fr 2 [iv (J4 (Eh seed Bz [y.lv,y.n])),.slice wa2 (Jt (vI (ofF (Hh g.tr.l ch) y.n)) (Eh seed Bz [y.lv,y.n]) (If (Hf g author ch leaf bs [] wa pa ba none wc pc bc 0) Bz [y.lv,y.n]).b (D8 leaf y.lv.toNat).b).length wc2]) Z Z Ct Z .head (.tail (.tail (.head (show (2:Nat)=2 from Z)))) Z ?_))))
             exact B2 4 (by kernel_rfl) (by repeat (first | exact trivial | refine ⟨rfl,?_⟩)) (by rfl) (by rfl) hk
            ·refine (Cf (s:=Fr 2 [iv (J4 (Eh seed Bz [y.lv,y.n])),.slice wa2 (Jt (vI (ofF (Hh g.tr.l ch) y.n)) (Eh seed Bz [y.lv,y.n]) (If (Hf g author ch leaf bs [] wa pa ba none wc pc bc 0) Bz [y.lv,y.n]).b (D8 leaf y.lv.toNat).b).length wc2]) Z Z Ct Z .head (.tail (.tail (.head (show (2:Nat)=2 from Z)))) Z (Ad 23 ((ext Z Z Z ?_))))
             exact B2 4 (by kernel_rfl) (by repeat (first | exact trivial | refine ⟨rfl,?_⟩)) (by rfl) (by rfl) hk
          ·refine (ext Z Z Z (Ad 22 ((ext Z Z Z (Ac (d:=146) (v:=.agg (Fr 2 [iv (J4 (Eh seed Bz [y.lv,y.n])),.slice wa2 (Jt (vI (ofF (Hh g.tr.l ch) y.n)) (Eh seed Bz [y.lv,y.n]) (If (Hf g author ch leaf bs [] wa pa ba none wc pc bc 0) Bz [y.lv,y.n]).b (D8 leaf y.lv.toNat).b).length wc2]).cs.toArray) Z (by rfl) (Ad 24 ((A2 (o':=2) Z Z Fi Ct Z (Ad 25 ((Cf (s:=Fr 2 [iv (J4 (Eh seed Bz [y.lv,y.n])),.slice wa2 (Jt (vI (ofF (Hh g.tr.l ch) y.n)) (Eh seed Bz [y.lv,y.n]) (If (Hf g author ch leaf bs [] wa pa ba none wc pc bc 0) Bz [y.lv,y.n]).b (D8 leaf y.lv.toNat).b).length wc2]) Z Z Ct Z .head (.tail (.tail (.head (show (2:Nat)=2 from Z)))) Z ?_)))))))))))
           exact B2 4 (by kernel_rfl) (by repeat (first | exact trivial | refine ⟨rfl,?_⟩)) (by rfl) (by rfl) hk) ?_
        refine A6 (qn (Aa (oj (A2 (o':=37) Z Z D7 Db Z (oj (Bh Z Z Db (.tail _ (.tail _ (.tail _ (.head _)))) (Z) (oj (Eb Z Z E1 (.head _) Z (Ac (d:=151) (v:=.agg (Fr 4 [iv y.n,iv y.lv,iv (J4 (Eh seed Bz [y.lv,y.n])),.slice wa2 (Jt (vI (ofF (Hh g.tr.l ch) y.n)) (Eh seed Bz [y.lv,y.n]) (If (Hf g author ch leaf bs [] wa pa ba none wc pc bc 0) Bz [y.lv,y.n]).b (D8 leaf y.lv.toNat).b).length wc2]).cs.toArray) Z (by exact box_agg _ _ _ _ _ _) (oj (F7 Z Tryz.underlying32 E1 I9 (.agg (s:=Fr 4 [iv y.n,iv y.lv,iv (J4 (Eh seed Bz [y.lv,y.n])),.slice wa2 (Jt (vI (ofF (Hh g.tr.l ch) y.n)) (Eh seed Bz [y.lv,y.n]) (If (Hf g author ch leaf bs [] wa pa ba none wc pc bc 0) Bz [y.lv,y.n]).b (D8 leaf y.lv.toNat).b).length wc2]) Z .nil) (by repeat (first | exact List.forall_mem_nil _ | refine List.forall_mem_cons.2 ⟨rfl,?_⟩)) Z (by decide) Z (fun r152=>?_))))))))))))
        refine Al (Am 0 _ _ Z) ?_
        try dsimp only [List.eraseIdx]
        refine oj (Ku Z Z Z el_32 (by kernel_rfl) ho0 (i:=1) Z (fun w ho h=>Bc.src (h.1.1) Z) (by omega) (by simp only [maxLen]; omega) (fun v153 e153 ho153=>?_))
        try dsimp only [List.set]
        obtain ⟨va153,vc153,hv153,hc153⟩:=ho153.shape'
        subst hv153
        exact oj (A2 (o':=37) Z Z D7 Db Z (oj (Cr Z Z Db Z (.tail (.tail (.tail .head))) (.tail (.tail (.tail (.tail (.tail (.tail (.head Z))))))) Z (on (bn (qn (Aa (oj (add Z Z Z (by omega) (oj (mv Z Z (on (qn (Ar (bs.length+1,bs++[(Bxx.mk y.n y.lv (J4 (Eh seed Bz [y.lv,y.n])) (Jt (vI (ofF (Hh g.tr.l ch) y.n)) (Eh seed Bz [y.lv,y.n]) (If (Hf g author ch leaf bs [] wa pa ba none wc pc bc 0) Bz [y.lv,y.n]).b (D8 leaf y.lv.toNat).b) wa2 wc2)],va153,vc153,e153) (by dsimp only; omega) (⟨by (try dsimp only); omega,by simp,snoc_rel hbr hy ⟨Z,Z,by dsimp only,by (try dsimp only); rw [hd_eq (g:=g) (a:=author) rfl rfl rfl rfl]⟩,box_own ho153⟩) (⟨Z,Z,Z,Z,Z,Z,Z,Z,Z,Z,Z,Z,Z,Z,tR⟩) (.cons _ (.refl _)) (fun w h=>⟨(Ez h),(Ec h),(Fg h),(Gg h),(Io h),(Ew h),(Fh h),(Ev h),(Jr h),(Ij h),(pQ15 h),(pQ16 h),(pQ17 h),(pQ18 h),(pQ19 h),(pQ20 h),CFb.snoc (pQ21 h) (h.2.1.1),tR⟩)))))))))))))))
      ·have hbl:bs.length=(Hw g author ch).length:=by omega
       refine A1 (qe (qe (be (qn (Ab (Ab (Aa (By (i:=0) Z ho0 (Do (fun _=>Z) _) ?_))))))))
       try dsimp only [List.eraseIdx]
       refine oj (mv Z Z (oj (mv Z Z (oj (call Z Z (.cons Z (.cons Z .nil)) fb_49 (welcome_spec author ca ch.length cc ch Z (by omega))  (fun w h=>⟨(Cu h),tR⟩) ?_)))))
       rintro ⟨v158,e158,ys⟩ ⟨hyp,hys,ho158⟩
       try dsimp only at hyp hys ho158
       try dsimp only
       obtain ⟨ya,yc,rfl,hyc⟩:=ho158.shape'
       have hyq:=wcS_eq hfm hyp hys
       try dsimp only at hyq
       subst hyq
       have hwsl:=wcS_len author ch
       refine By (i:=0) Z ho158 (Do (fun _=>Z) _) ?_
       try dsimp only [List.eraseIdx]
       refine oj (Bn Z Z Tryz.underlying30 Z (oj (mv Z Z (on (qn (Ag (Cx (Aw (fun (sT:(Nat) × (List Wlc) × (Option Addr) × (Nat) × (A9))=>(⟨sT.1≤(wcS author ch).length∧sT.2.1.length=sT.1∧(∀ (j:Nat) x y,sT.2.1[j]? = some x→(wcS author ch)[j]? = some y→WlR g author (Ei g leaf ini) seed x y)∧Own 87 3 (.slice sT.2.2.1 sT.1 sT.2.2.2.1) sT.1 (sT.2.1.flatMap Wlc.cells) sT.2.2.2.2,[(1,iv author),(2,iv priv),(3,.slice ca ch.length cc),(7,Bg r7 0),(11,Bg r11 0),(13,Bg r13 0),(14,Bg r14 0),(15,Bg r15 0),(17,.slice na (Hw g author ch).length nc),(158,.slice ya (wcS author ch).length yc),(159,iv (wcS author ch).length),(160,iv (sT.1:Int))],[sT.2.2.2.2,bx r15 [sd (Ei g leaf ini)] 67,bx r14 (cmS g.folder (g.epoch+1) g.last author wa ch.length wc pa ((Ef leaf).map (fun s:Dig=>Iz (Fm s))).length pc ba bs.length bc sT.2.2.1 sT.1 sT.2.2.2.1 (Dig.zero) (0) (0)) 37],fun w=>GF1 g w∧g.tr.F w∧Sl 5 ch.length (ch.flatMap Chg.cells) (.slice ca ch.length cc) w∧De 1 (Av .u32 B9) w∧De 3 (Av .u32 D1) w∧De 6 (Av .u32 E7) w∧De 0 (labs.map fun s=>.string (Iq s)) w∧Bc r7 g.segs 29 w∧Bc r11 [sd leaf] 67 w∧Bc r13 [sd seed] 67 w∧Sl 4 (Hw g author ch).length ((Hw g author ch).flatMap Bxx.cells) (.slice na (Hw g author ch).length nc) w∧Sl 32 (Ef leaf).length ((Ef leaf).flatMap fun x:Dig=>An x.b) (.slice (some la) (Ef leaf).length lc) w∧Sl 5 ch.length (ch.flatMap Chg.cells) (.slice wa ch.length wc) w∧Sl 1 ((Ef leaf).map (fun s:Dig=>Iz (Fm s))).length (((Ef leaf).map (fun s:Dig=>Iz (Fm s))).flatMap (fun x=>[iv x])) (.slice pa ((Ef leaf).map (fun s:Dig=>Iz (Fm s))).length pc) w∧Tr.F ⟨(Hh g.tr.l ch),ra,rc⟩ w∧Bc r24 [S1 (.slice ra (Hh g.tr.l ch).length rc)] 27 w∧Sl 4 bs.length (bs.flatMap Bxx.cells) (.slice ba bs.length bc) w∧CFb bs w∧Sl 5 (wcS author ch).length ((wcS author ch).flatMap Chg.cells) (.slice ya (wcS author ch).length yc) w∧CFw sT.2.1 w∧True,(wcS author ch).length-sT.1⟩:Hd)) (0,[],none,0,none) (⟨Nat.zero_le _,Z,fun j x y h=>by simp at h,.nil⟩) (⟨Z,Z,Z,Z,Z,Z,Z,Z,Z,Z,Z,Z,tR⟩) (.refl _) (fun w h=>⟨(Cu h),(Dw h),(Ez h),(Ec h),(Fg h),(Gg h),(Io h),(Ew h),(Fh h),(Ev h),(Jr h),(Ij h),(pQ15 h),(pQ16 h),(pQ17 h),(pQ18 h),(h.2.2.1.1),(pQ19 h),(h.1.1),fun b hb=>(List.not_mem_nil hb).elim,tR⟩) ?_))))))))
       rintro ⟨i,ws,wla,wlc,en⟩ ⟨hi,hlen,hwr,ho1⟩
       try dsimp only
       try dsimp only at hi hlen hwr ho1
       subst hlen
       refine Ab (Aa (oj (Dd Z Z Z (on (qn (Ab ?_))))))
       refine A8 Z (fun ht=>?_) (fun hf=>?_)
       ·obtain ⟨y,hy⟩:∃ y,(wcS author ch)[ws.length]? = some y:=⟨_,List.getElem?_eq_getElem (by omega)⟩
        have hym:=wcS_mem.1 (List.mem_of_getElem? hy)
        have hel:=hfm.el y hym.1 hym.2.1
        have hyd:=Bu.1 (hfm.1 y hym.1).2
        have hi2:∀ n∈[y.d],i64 n:=fun n hn=>by
         rw [List.mem_singleton.1 hn]; unfold i64; omega
        have hnl:=nd_len hok
        have hcb:CmB (Hf g author ch leaf bs ws wa pa ba wla wc pc bc wlc):=⟨hcl,by (try dsimp only); omega,by (try dsimp only); omega,by (try dsimp only); omega⟩
        have hc4:okL ((Cb (Hf g author ch leaf bs ws wa pa ba wla wc pc bc wlc)).take 4):=c4_ok (by (try dsimp only); unfold i64; omega) (by (try dsimp only); unfold i64; omega) (by (try dsimp only); unfold i64; omega)
        refine Ah (qn (Ab (Ag (Ab (Aa (oj (Fc Z Z Z Tryz.underlying30 Cp (by omega) (fun w h=>Sl.some (pQ18 h) (by omega)) (oj (D4 Z Z Cp Z (fun w h=>Cv (pQ18 h) (by decide) (fun _=>Z) hy) (Ac (d:=163) (v:=av y.segs) Z Z (oj (C7 Z Fv (fun r30=>(oj (C0 Z Z Cp Z Z .head (on (qn (Ab (Aa (oj (A2 (o':=1) Z Z Ds Ai Z ?_)))))))))))))))))))))
        refine oj (Bh Z Z Ai (.head _) (Z) (oj (bld Z lay_87 (Ch Z Z (.head Z) .nil) (oj (C7 Z zok_87 (fun r31=>(oj (C0 Z Z Gk Z Z .head (on (qn (Ab (A5 mo (dj_either [0,1,2,3,4,7,8,9,12] [5,6,10,11] [10,5,6,11] (fun j=>Nat.beq j 5 || Nat.beq j 10 || Nat.beq j 11) 5 10 (by kernel_rfl) Z Z (.det _ (fun Q K R m k=>(A2 (o':=2) Z Z Kk Ai Z k)) (.det _ (fun Q K R m k=>(Bh Z Z Ai (.tail _ (.head _)) (Z) k)) (.det (dv seed) (fun Q K R m k=>(Bx Z Z Bb (fun w h=>(Io h.1)) Z (B8 (av1 _) k))) (.det _ (fun Q K R m k=>(A2 (o':=1) Z Z Ds Ai Z k)) (.det _ (fun Q K R m k=>(Bh Z Z Ai (.tail _ (.head _)) (Z) k)) (.det _ (fun Q K R m k=>(Eb Z Z Bk (.tail _ (.tail _ (.tail _ (.tail _ (.head _))))) Z k)) (.det _ (fun Q K R m k=>(A2 (o':=1) Z Z Ds Ai Z k)) ?_))))))))))))))))))))
        refine .det _ (fun Q K R m k=>(Bh Z Z Ai (.tail _ (.head _)) (Z) k)) (.det (.slice (some ⟨r15,0,none⟩) (Ei g leaf ini).b.length 32) (fun Q K R m k=>(slp Z Z Tryz.underlying67 Bv Z Z (.inl Z) Z (B8 (by rw [(Ei g leaf ini).h]; simp [Addr.add]) k))) ?_)
        refine .nil ⟨?_,?_⟩
        ·refine .gh (γ:=Nat) (fun _=>True) _ _ _ Z (fun Q K R k=>(F7 Z Tryz.underlying31 Ai Gd (C3 (v:=iv y.d) Z Z .nil) (by repeat (first | exact List.forall_mem_nil _ | refine List.forall_mem_cons.2 ⟨rfl,?_⟩)) Z (by decide) Z (fun r173=>Al (.refl _) (Ae (fun w h=>⟨⟨h.1,h.2.1⟩,h.2.2⟩) (k r173 tR))))) (fun _=>by exact ⟨[],by simp⟩) ?_
         rintro r173 _
         try dsimp only [List.nil_append,List.cons_append]
         refine .det _ (fun Q K R m k=>(Ao Z Z (.cons Z (.cons Z (.cons Z .nil))) fb_83 (F5 seed A0 [y.d] (some ⟨r173,0,none⟩) 1 (by decide) (by simp) hi2)  (fun w h=>⟨Ee (h.1.1.1) Z Z,(Dw h.1),(Ez h.1),tR⟩) Z (fun _=>Ae (fun w h=>h.2) k))) (.gh (γ:=Nat) (fun _=>True) _ _ _ Z (fun Q K R k=>(F7 Z Tryz.underlying31 Ai Gd (C3 (v:=iv y.d) Z Z .nil) (by repeat (first | exact List.forall_mem_nil _ | refine List.forall_mem_cons.2 ⟨rfl,?_⟩)) Z (by decide) Z (fun r178=>Al (.refl _) (Ae (fun w h=>⟨⟨h.1,h.2.1⟩,h.2.2⟩) (k r178 tR))))) (fun _=>by exact ⟨[],by simp⟩) ?_)
         rintro r178 _
         try dsimp only [List.nil_append,List.cons_append]
         refine .gh (γ:=Nat) _ _ (fun _=>_) _ Z (fun Q K R k=>callLO [_] Z Z (.cons Z (.cons Z (.cons Z .nil))) fb_84 (Am 2 _ _ Z) (chead_spec (Hf g author ch leaf bs ws wa pa ba wla wc pc bc wlc) hcb hc4 A0 (by decide) [y.d] (some ⟨r178,0,none⟩) 1 (by simp) hi2) (fun _=>Z) (fun w ho h=>⟨(Ij h.1),(pQ15 h.1),(pQ18 h.1),(pQ19 h.1),ho1.sl (Do (fun _=>Z) _) ho,(pQ21 h.1),Ee (h.1.1.1) Z Z,(Ez h.1),(Ec h.1),tR⟩) (fun x hx=>Al (.refl _) (Ae (fun w h=>⟨⟨h.1,h.2.1⟩,h.2.2⟩) (k x hx)))) (fun _=>by exact ⟨[],by simp⟩) ?_
         rintro r179 _
         try dsimp only
         refine .nil (Ad 13 ((callLO [_] Z Z (.cons Z (.cons Z (.cons Z (.cons Z .nil)))) fb_82 (Am 3 _ _ Z) (wwrap_spec y.p hel (Eh seed A0 [y.d]) (If (Hf g author ch leaf bs ws wa pa ba wla wc pc bc wlc) A0 [y.d]).b (some ⟨r179,0,none⟩) 32 (by rw [(If (Hf g author ch leaf bs ws wa pa ba wla wc pc bc wlc) A0 [y.d]).h]; decide) (Ei g leaf ini).b ⟨r15,0,none⟩ 32 (Iw _).1 (by rw [(Ei g leaf ini).h]; decide)) (fun _=>Z) (fun w ho h=>⟨Gs (h.1.1),Gs (te:=67) (ho _ _ (.head _)),(Ec h),(Fg h),(Gg h),tR⟩) ?_)))
         rintro ⟨⟨wa2,wc2⟩,we⟩ hx
         try dsimp only [List.nil_append,List.cons_append]
         refine By (i:=0) Z hx (Co _) ?_
         try dsimp only [List.eraseIdx]
         refine Ad 14 ((mv Z Z ?_))
         refine Hz (fun hk=>by
           refine Cj (i:=15) (j:=16) (by kernel_rfl) Z Z ?_ ?_
           ·refine (ext Z Z Z (Ac (d:=182) (v:=.agg (Fr 2 [iv (J4 (Eh seed A0 [y.d])),.slice wa2 (Jt y.p (Eh seed A0 [y.d]) (If (Hf g author ch leaf bs ws wa pa ba wla wc pc bc wlc) A0 [y.d]).b (Ei g leaf ini).b).length wc2]).cs.toArray) Z (by rfl) ?_))
            refine Cj (i:=16) (j:=17) (by kernel_rfl) Z Z ?_ ?_
            ·exact (ext Z Z Z (Ad 17 ((A2 (o':=1) Z Z E4 Ct Z (Ad 18 ((Cf (s:=Fr 2 [iv (J4 (Eh seed A0 [y.d])),.slice wa2 (Jt y.p (Eh seed A0 [y.d]) (If (Hf g author ch leaf bs ws wa pa ba wla wc pc bc wlc) A0 [y.d]).b (Ei g leaf ini).b).length wc2]) Z Z Ct Z .head (.tail (.head (show (2:Nat)=2 from Z))) Z hk)))))))
            ·refine (A2 (o':=1) Z Z E4 Ct Z ?_)
             refine Cj (i:=16) (j:=18) (by kernel_rfl) Z Z ?_ ?_
             ·refine (ext Z Z Z (Ad 18 ((Cf (s:=Fr 2 [iv (J4 (Eh seed A0 [y.d])),.slice wa2 (Jt y.p (Eh seed A0 [y.d]) (If (Hf g author ch leaf bs ws wa pa ba wla wc pc bc wlc) A0 [y.d]).b (Ei g leaf ini).b).length wc2]) Z Z Ct Z .head (.tail (.head (show (2:Nat)=2 from Z))) Z ?_))))
              exact B2 4 (by kernel_rfl) (by repeat (first | exact trivial | refine ⟨rfl,?_⟩)) (by rfl) (by rfl) hk
             ·refine (Cf (s:=Fr 2 [iv (J4 (Eh seed A0 [y.d])),.slice wa2 (Jt y.p (Eh seed A0 [y.d]) (If (Hf g author ch leaf bs ws wa pa ba wla wc pc bc wlc) A0 [y.d]).b (Ei g leaf ini).b).length wc2]) Z Z Ct Z .head (.tail (.head (show (2:Nat)=2 from Z))) Z (Ad 16 ((ext Z Z Z ?_))))
              exact B2 4 (by kernel_rfl) (by repeat (first | exact trivial | refine ⟨rfl,?_⟩)) (by rfl) (by rfl) hk
           ·refine (ext Z Z Z (Ad 15 ((ext Z Z Z (Ac (d:=182) (v:=.agg (Fr 2 [iv (J4 (Eh seed A0 [y.d])),.slice wa2 (Jt y.p (Eh seed A0 [y.d]) (If (Hf g author ch leaf bs ws wa pa ba wla wc pc bc wlc) A0 [y.d]).b (Ei g leaf ini).b).length wc2]).cs.toArray) Z (by rfl) (Ad 17 ((A2 (o':=1) Z Z E4 Ct Z (Ad 18 ((Cf (s:=Fr 2 [iv (J4 (Eh seed A0 [y.d])),.slice wa2 (Jt y.p (Eh seed A0 [y.d]) (If (Hf g author ch leaf bs ws wa pa ba wla wc pc bc wlc) A0 [y.d]).b (Ei g leaf ini).b).length wc2]) Z Z Ct Z .head (.tail (.head (show (2:Nat)=2 from Z))) Z ?_)))))))))))
            exact B2 4 (by kernel_rfl) (by repeat (first | exact trivial | refine ⟨rfl,?_⟩)) (by rfl) (by rfl) hk) ?_
         refine A6 (qn (Aa (oj (A2 (o':=38) Z Z D2 D5 Z (oj (Bh Z Z D5 (.tail _ (.tail _ (.tail _ (.tail _ (.head _))))) (Z) (oj (Eb Z Z Gk (.head _) Z (Ac (d:=187) (v:=.agg (Fr 3 [iv y.d,iv (J4 (Eh seed A0 [y.d])),.slice wa2 (Jt y.p (Eh seed A0 [y.d]) (If (Hf g author ch leaf bs ws wa pa ba wla wc pc bc wlc) A0 [y.d]).b (Ei g leaf ini).b).length wc2]).cs.toArray) Z (by exact wel_agg _ _ _ _ _) (oj (F7 Z Tryz.underlying33 Gk zok_87 (.agg (s:=Fr 3 [iv y.d,iv (J4 (Eh seed A0 [y.d])),.slice wa2 (Jt y.p (Eh seed A0 [y.d]) (If (Hf g author ch leaf bs ws wa pa ba wla wc pc bc wlc) A0 [y.d]).b (Ei g leaf ini).b).length wc2]) Z .nil) (by repeat (first | exact List.forall_mem_nil _ | refine List.forall_mem_cons.2 ⟨rfl,?_⟩)) Z (by decide) Z (fun r188=>?_))))))))))))
         refine Al (Am 0 _ _ Z) ?_
         try dsimp only [List.eraseIdx]
         refine oj (Ku Z Z Z el_33 (by kernel_rfl) ho1 (i:=2) Z (fun w ho h=>Bc.src (h.1.1) Z) (by omega) (by simp only [maxLen]; omega) (fun v189 e189 ho189=>?_))
         try dsimp only [List.set]
         obtain ⟨va189,vc189,hv189,hc189⟩:=ho189.shape'
         subst hv189
         exact oj (A2 (o':=38) Z Z D2 D5 Z (oj (Cr Z Z D5 Z (.tail (.tail (.tail (.tail .head)))) (.tail (.tail (.tail (.tail (.tail (.tail (.tail (.head Z)))))))) Z (on (bn (qn (Aa (oj (add Z Z Z (by omega) (oj (mv Z Z (on (qn (Ar (ws.length+1,ws++[(Wlc.mk y.d (J4 (Eh seed A0 [y.d])) (Jt y.p (Eh seed A0 [y.d]) (If (Hf g author ch leaf bs ws wa pa ba wla wc pc bc wlc) A0 [y.d]).b (Ei g leaf ini).b) wa2 wc2)],va189,vc189,e189) (by dsimp only; omega) (⟨by (try dsimp only); omega,by simp,snoc_rel hwr hy ⟨Z,by dsimp only,by (try dsimp only); rw [hd_eq (g:=g) (a:=author) rfl rfl rfl rfl]⟩,wel_own ho189⟩) (⟨Z,Z,Z,Z,Z,Z,Z,Z,Z,Z,Z,Z,tR⟩) (.cons _ (.cons _ (.refl _))) (fun w h=>⟨(Ez h),(Ec h),(Fg h),(Gg h),(Io h),(Ew h),(Fh h),(Ev h),(Jr h),(Ij h),(pQ15 h),(pQ16 h),(pQ17 h),(pQ18 h),(pQ19 h),(pQ20 h),(pQ21 h),(pQ22 h),(pQ23 h),CFw.snoc (pQ24 h) (h.2.1.1),tR⟩)))))))))))))))
        ·refine .gh (γ:=Nat) (fun _=>True) _ _ _ Z (fun Q K R k=>(F7 Z Tryz.underlying31 Ai Gd (C3 (v:=iv y.d) Z Z .nil) (by repeat (first | exact List.forall_mem_nil _ | refine List.forall_mem_cons.2 ⟨rfl,?_⟩)) Z (by decide) Z (fun r178=>Al (.refl _) (Ae (fun w h=>⟨⟨h.1,h.2.1⟩,h.2.2⟩) (k r178 tR))))) (fun _=>by exact ⟨[],by simp⟩) ?_
         rintro r178 _
         try dsimp only [List.nil_append,List.cons_append]
         refine .gh (γ:=Nat) (fun _=>True) _ _ _ Z (fun Q K R k=>(F7 Z Tryz.underlying31 Ai Gd (C3 (v:=iv y.d) Z Z .nil) (by repeat (first | exact List.forall_mem_nil _ | refine List.forall_mem_cons.2 ⟨rfl,?_⟩)) Z (by decide) Z (fun r173=>Al (.refl _) (Ae (fun w h=>⟨⟨h.1,h.2.1⟩,h.2.2⟩) (k r173 tR))))) (fun _=>by exact ⟨[],by simp⟩) ?_
         rintro r173 _
         try dsimp only [List.nil_append,List.cons_append]
         refine .det _ (fun Q K R m k=>(Ao Z Z (.cons Z (.cons Z (.cons Z .nil))) fb_83 (F5 seed A0 [y.d] (some ⟨r173,0,none⟩) 1 (by decide) (by simp) hi2)  (fun w h=>⟨Ee (h.1.1.1) Z Z,(Ez h.1),(Ec h.1),tR⟩) Z (fun _=>Ae (fun w h=>h.2) k))) (.gh (γ:=Nat) _ _ (fun _=>_) _ Z (fun Q K R k=>callLO [_] Z Z (.cons Z (.cons Z (.cons Z .nil))) fb_84 (Am 2 _ _ Z) (chead_spec (Hf g author ch leaf bs ws wa pa ba wla wc pc bc wlc) hcb hc4 A0 (by decide) [y.d] (some ⟨r178,0,none⟩) 1 (by simp) hi2) (fun _=>Z) (fun w ho h=>⟨(Ij h.1),(pQ15 h.1),(pQ18 h.1),(pQ19 h.1),ho1.sl (Do (fun _=>Z) _) ho,(pQ21 h.1),Ee (h.1.2.1.1) Z Z,(Ez h.1),(Ec h.1),tR⟩) (fun x hx=>Al (.refl _) (Ae (fun w h=>⟨⟨h.1,h.2.1⟩,h.2.2⟩) (k x hx)))) (fun _=>by exact ⟨[],by simp⟩) ?_)
         rintro r179 _
         try dsimp only
         refine .nil (Ad 13 ((callLO [_] Z Z (.cons Z (.cons Z (.cons Z (.cons Z .nil)))) fb_82 (Am 3 _ _ Z) (wwrap_spec y.p hel (Eh seed A0 [y.d]) (If (Hf g author ch leaf bs ws wa pa ba wla wc pc bc wlc) A0 [y.d]).b (some ⟨r179,0,none⟩) 32 (by rw [(If (Hf g author ch leaf bs ws wa pa ba wla wc pc bc wlc) A0 [y.d]).h]; decide) (Ei g leaf ini).b ⟨r15,0,none⟩ 32 (Iw _).1 (by rw [(Ei g leaf ini).h]; decide)) (fun _=>Z) (fun w ho h=>⟨Gs (h.1.1),Gs (te:=67) (ho _ _ (.head _)),(Ec h),(Fg h),(Gg h),tR⟩) ?_)))
         rintro ⟨⟨wa2,wc2⟩,we⟩ hx
         try dsimp only [List.nil_append,List.cons_append]
         refine By (i:=0) Z hx (Co _) ?_
         try dsimp only [List.eraseIdx]
         refine Ad 14 ((mv Z Z ?_))
         refine Hz (fun hk=>by
           refine Cj (i:=15) (j:=16) (by kernel_rfl) Z Z ?_ ?_
           ·refine (ext Z Z Z (Ac (d:=182) (v:=.agg (Fr 2 [iv (J4 (Eh seed A0 [y.d])),.slice wa2 (Jt y.p (Eh seed A0 [y.d]) (If (Hf g author ch leaf bs ws wa pa ba wla wc pc bc wlc) A0 [y.d]).b (Ei g leaf ini).b).length wc2]).cs.toArray) Z (by rfl) ?_))
            refine Cj (i:=16) (j:=17) (by kernel_rfl) Z Z ?_ ?_
            ·exact (ext Z Z Z (Ad 17 ((A2 (o':=1) Z Z E4 Ct Z (Ad 18 ((Cf (s:=Fr 2 [iv (J4 (Eh seed A0 [y.d])),.slice wa2 (Jt y.p (Eh seed A0 [y.d]) (If (Hf g author ch leaf bs ws wa pa ba wla wc pc bc wlc) A0 [y.d]).b (Ei g leaf ini).b).length wc2]) Z Z Ct Z .head (.tail (.head (show (2:Nat)=2 from Z))) Z hk)))))))
            ·refine (A2 (o':=1) Z Z E4 Ct Z ?_)
             refine Cj (i:=16) (j:=18) (by kernel_rfl) Z Z ?_ ?_
             ·refine (ext Z Z Z (Ad 18 ((Cf (s:=Fr 2 [iv (J4 (Eh seed A0 [y.d])),.slice wa2 (Jt y.p (Eh seed A0 [y.d]) (If (Hf g author ch leaf bs ws wa pa ba wla wc pc bc wlc) A0 [y.d]).b (Ei g leaf ini).b).length wc2]) Z Z Ct Z .head (.tail (.head (show (2:Nat)=2 from Z))) Z ?_))))
              exact B2 4 (by kernel_rfl) (by repeat (first | exact trivial | refine ⟨rfl,?_⟩)) (by rfl) (by rfl) hk
             ·refine (Cf (s:=Fr 2 [iv (J4 (Eh seed A0 [y.d])),.slice wa2 (Jt y.p (Eh seed A0 [y.d]) (If (Hf g author ch leaf bs ws wa pa ba wla wc pc bc wlc) A0 [y.d]).b (Ei g leaf ini).b).length wc2]) Z Z Ct Z .head (.tail (.head (show (2:Nat)=2 from Z))) Z (Ad 16 ((ext Z Z Z ?_))))
              exact B2 4 (by kernel_rfl) (by repeat (first | exact trivial | refine ⟨rfl,?_⟩)) (by rfl) (by rfl) hk
           ·refine (ext Z Z Z (Ad 15 ((ext Z Z Z (Ac (d:=182) (v:=.agg (Fr 2 [iv (J4 (Eh seed A0 [y.d])),.slice wa2 (Jt y.p (Eh seed A0 [y.d]) (If (Hf g author ch leaf bs ws wa pa ba wla wc pc bc wlc) A0 [y.d]).b (Ei g leaf ini).b).length wc2]).cs.toArray) Z (by rfl) (Ad 17 ((A2 (o':=1) Z Z E4 Ct Z (Ad 18 ((Cf (s:=Fr 2 [iv (J4 (Eh seed A0 [y.d])),.slice wa2 (Jt y.p (Eh seed A0 [y.d]) (If (Hf g author ch leaf bs ws wa pa ba wla wc pc bc wlc) A0 [y.d]).b (Ei g leaf ini).b).length wc2]) Z Z Ct Z .head (.tail (.head (show (2:Nat)=2 from Z))) Z ?_)))))))))))
            exact B2 4 (by kernel_rfl) (by repeat (first | exact trivial | refine ⟨rfl,?_⟩)) (by rfl) (by rfl) hk) ?_
         refine A6 (qn (Aa (oj (A2 (o':=38) Z Z D2 D5 Z (oj (Bh Z Z D5 (.tail _ (.tail _ (.tail _ (.tail _ (.head _))))) (Z) (oj (Eb Z Z Gk (.head _) Z (Ac (d:=187) (v:=.agg (Fr 3 [iv y.d,iv (J4 (Eh seed A0 [y.d])),.slice wa2 (Jt y.p (Eh seed A0 [y.d]) (If (Hf g author ch leaf bs ws wa pa ba wla wc pc bc wlc) A0 [y.d]).b (Ei g leaf ini).b).length wc2]).cs.toArray) Z (by exact wel_agg _ _ _ _ _) (oj (F7 Z Tryz.underlying33 Gk zok_87 (.agg (s:=Fr 3 [iv y.d,iv (J4 (Eh seed A0 [y.d])),.slice wa2 (Jt y.p (Eh seed A0 [y.d]) (If (Hf g author ch leaf bs ws wa pa ba wla wc pc bc wlc) A0 [y.d]).b (Ei g leaf ini).b).length wc2]) Z .nil) (by repeat (first | exact List.forall_mem_nil _ | refine List.forall_mem_cons.2 ⟨rfl,?_⟩)) Z (by decide) Z (fun r188=>?_))))))))))))
         refine Al (Am 0 _ _ Z) ?_
         try dsimp only [List.eraseIdx]
         refine oj (Ku Z Z Z el_33 (by kernel_rfl) ho1 (i:=2) Z (fun w ho h=>Bc.src (h.1.1) Z) (by omega) (by simp only [maxLen]; omega) (fun v189 e189 ho189=>?_))
         try dsimp only [List.set]
         obtain ⟨va189,vc189,hv189,hc189⟩:=ho189.shape'
         subst hv189
         exact oj (A2 (o':=38) Z Z D2 D5 Z (oj (Cr Z Z D5 Z (.tail (.tail (.tail (.tail .head)))) (.tail (.tail (.tail (.tail (.tail (.tail (.tail (.head Z)))))))) Z (on (bn (qn (Aa (oj (add Z Z Z (by omega) (oj (mv Z Z (on (qn (Ar (ws.length+1,ws++[(Wlc.mk y.d (J4 (Eh seed A0 [y.d])) (Jt y.p (Eh seed A0 [y.d]) (If (Hf g author ch leaf bs ws wa pa ba wla wc pc bc wlc) A0 [y.d]).b (Ei g leaf ini).b) wa2 wc2)],va189,vc189,e189) (by dsimp only; omega) (⟨by (try dsimp only); omega,by simp,snoc_rel hwr hy ⟨Z,by dsimp only,by (try dsimp only); rw [hd_eq (g:=g) (a:=author) rfl rfl rfl rfl]⟩,wel_own ho189⟩) (⟨Z,Z,Z,Z,Z,Z,Z,Z,Z,Z,Z,Z,tR⟩) (.cons _ (.cons _ (.refl _))) (fun w h=>⟨(Ez h),(Ec h),(Fg h),(Gg h),(Io h),(Ew h),(Fh h),(Ev h),(Jr h),(Ij h),(pQ15 h),(pQ16 h),(pQ17 h),(pQ18 h),(pQ19 h),(pQ20 h),(pQ21 h),(pQ22 h),(pQ23 h),CFw.snoc (pQ24 h) (h.2.1.1),tR⟩)))))))))))))))
       ·have hwl:ws.length=(wcS author ch).length:=by omega
        obtain ⟨hwd,hwb⟩:=WlR.all hwl hwr
        have hm0:Mk0 g author ch leaf (Hf g author ch leaf bs ws wa pa ba wla wc pc bc wlc):=⟨rfl,rfl,rfl,rfl,rfl,rfl,hbl,fun i x y hx hy=>(hbr i x y hx hy).ok,hwd,hwb⟩
        have hm1:Mk0 g author ch leaf (cmC g author ch leaf ini bs ws wa pa ba wla wc pc bc wlc):=⟨rfl,rfl,rfl,rfl,rfl,rfl,hbl,fun i x y hx hy=>(hbr i x y hx hy).ok,hwd,hwb⟩
        have hz64:i64 0:=by unfold i64; omega
        have hk0:=hm0.cmok hok hz64 hz64
        have hk1:=hm1.cmok hok hz64 hz64
        have hdep:=I7 (Hf g author ch leaf bs ws wa pa ba wla wc pc bc wlc)
        refine A1 (qe (qe (be (qn (Ab (By (i:=0) Z ho1 (Do (fun _=>Z) _) ?_))))))
        try dsimp only [List.eraseIdx]
        refine A5 mo (A3 [0,1,2,3,4] (fun j=>Nat.beq j 2) (by kernel_rfl) Z Z (.det (dv (Ei g leaf ini)) (fun Q K R m k=>(Js Z Z Bb (.head _) Z Z (B8 (Z) k))) (.det _ (fun Q K R m k=>(Eb Z Z Bk (.tail _ (.head _)) Z k)) (.gh _ _ _ _ Z (fun Q K R k=>call Z Z (.cons Z .nil) fb_65 (Gr (Hf g author ch leaf bs ws wa pa ba wla wc pc bc wlc) hk0.b)  (fun w h=>⟨(Jr h.1),(Ij h.1),(pQ17 h.1),(pQ18 h.1),(h.1.1.1),(pQ20 h.1),tR⟩) (fun x hx=>Ae (fun w h=>⟨⟨h.1,h.2.1⟩,h.2.2⟩) (k x hx))) (fun _=>by exact ⟨[],by simp⟩) ?_))))
        rintro ⟨rv,av4,cv4⟩ ⟨q1,q2,q3⟩
        try dsimp only at q1 q2 q3
        try dsimp only [List.nil_append,List.cons_append]
        refine .det (.slice (if cv4-0=0 then av4 else av4.map (·.add (0*4))) (8-0) (cv4-0)) (fun Q K R m k=>(slc (h:=8) Z Z Tryz.underlying59 Bi Z ⟨_,Z,by (try dsimp only at q3); omega⟩ (.inl Z) Z (B8 (Z) k))) (.det _ (fun Q K R m k=>(Ao Z Z (.cons Z (.cons Z .nil)) fb_80 (chash_spec (Iq lbBody) (by decide) (rv.take 8) _ 8 _ (by rw [List.length_take]; omega) (by decide) (by rw [F9,q1]; exact okL_take hk0.ok 8) (by rw [F9,q1]; have:=depL_take (Cb (Hf g author ch leaf bs ws wa pa ba wla wc pc bc wlc)) 8; omega) (by rw [F9,q1]; exact Nat.le_trans (enc_take _ _) hk0.len))  (fun w h=>⟨sl_take (h.1.1.1) (fun _=>Z) (by decide) (by (try dsimp only at q3); omega),Bo.of (fun v hv=>Bo.mem (h.1.1.2.1) v (List.mem_of_mem_take hv)),(Ez h.1),(Ec h.1),tR⟩) Z (fun _=>Ae (fun w h=>h.2) k))) (.nil (Ad 5 (Ac (d:=196) (v:=dv (bdyD (Hf g author ch leaf bs ws wa pa ba wla wc pc bc wlc))) Z (by rw [F9,q1]; rfl) ((Ao Z Z (.cons Z (.cons Z .nil)) fb_29 (confirm_spec (Ei g leaf ini) (bdyD (Hf g author ch leaf bs ws wa pa ba wla wc pc bc wlc)))  (fun w h=>⟨(Ez h),(Ec h),tR⟩) Z (fun _=>(Ae (fun w h=>h.2) (Ac (d:=197) (v:=dv (cfB g author ch leaf ini bs ws wa pa ba wla wc pc bc wlc)) Z (by rfl) (Ad 6 ((A2 (o':=39) Z Z fld_37_8 Dc Z (Ad 7 ((Cf Z Z Dc Z (.tail .head) (.tail (.tail (.tail (.tail (.tail (.tail (.tail (.tail (.head Z))))))))) Z (A6 (qn (Ab (Ab ?_)))))))))))))))))))
        refine Aa (Cn (l':=[bx r15 [sd (Ei g leaf ini)] 67,bx r14 (cmS g.folder (g.epoch+1) g.last author wa ch.length wc pa ((Ef leaf).map (fun s:Dig=>Iz (Fm s))).length pc ba bs.length bc wla ws.length wlc ((cfB g author ch leaf ini bs ws wa pa ba wla wc pc bc wlc)) (0) (0)) 37]) (.refl _) (oj (mv Z Z (oj (Eb Z Z Bk (.tail _ (.head _)) Z (oj (call Z Z (.cons Z .nil) fb_52 (cmsg_spec (cmC g author ch leaf ini bs ws wa pa ba wla wc pc bc wlc) hk1)  (fun w h=>⟨(Ij h),(pQ15 h),(pQ18 h),(pQ19 h),(h.2.1.1),(pQ21 h),(Ez h),(Ec h),tR⟩) ?_)))))))
        rintro rm _
        try dsimp only
        refine Ac (d:=202) (v:=.slice (some ⟨rm,0,none⟩) (Hq (cmC g author ch leaf ini bs ws wa pa ba wla wc pc bc wlc)).b.length 32) Z (by rw [(Hq (cmC g author ch leaf ini bs ws wa pa ba wla wc pc bc wlc)).h]) (oj (Ao Z Z (.cons Z (.cons Z .nil)) fb_85 (sign_spec priv (Hq (cmC g author ch leaf ini bs ws wa pa ba wla wc pc bc wlc)).b (some ⟨rm,0,none⟩) 32 (by rw [(Hq (cmC g author ch leaf ini bs ws wa pa ba wla wc pc bc wlc)).h]; decide) (by rw [(Hq (cmC g author ch leaf ini bs ws wa pa ba wla wc pc bc wlc)).h]; decide))  (fun w h=>⟨(by rw [(Hq (cmC g author ch leaf ini bs ws wa pa ba wla wc pc bc wlc)).h]; exact (h.1.1)),(Ec h),(Fg h),tR⟩) Z (fun _=>(Ae (fun w h=>h.2) (oj (mv Z Z (oj (ext Z Z Z (Ac (d:=204) (v:=.agg (sgS (signR priv (Hq (cmC g author ch leaf ini bs ws wa pa ba wla wc pc bc wlc)).b) (signS priv (Hq (cmC g author ch leaf ini bs ws wa pa ba wla wc pc bc wlc)).b)).cs.toArray) Z (by rfl) (oj (ext Z Z Z (oj (A2 (o':=71) Z Z H7 In Z (oj (Cf Z Z In Z (.tail .head) (.tail (.tail (.tail (.tail (.tail (.tail (.tail (.tail (.tail (.head Z)))))))))) Z (oj (Ak Z Z (on (qn (Ab (Aa (oj (mv Z Z (oj (G2 Z Z Z ?_)))))))))))))))))))))))))
        refine on (qn (C5 Z (fun ht=>absurd ht (by simp [sign_ok _ hkv])) (fun hf=>(Ah (qn (Ab (A5 mo ?_)))))))
        refine Hz (fun hk=>by
          refine Cj (i:=0) (j:=1) (by kernel_rfl) Z Z ?_ ?_
          ·refine (Eb Z Z Bk (.tail _ (.head _)) Z ?_)
           refine Cj (i:=1) (j:=2) (by kernel_rfl) Z Z ?_ ?_
           ·exact (Js Z Z Bb (.head _) Z Z (Ad 2 ((C0 Z Z Bk Z Z (.tail .head) hk))))
           ·refine (C0 Z Z Bk Z Z (.tail .head) (Ad 1 ((Js Z Z Bb (.head _) Z Z ?_))))
            exact B2 2 (by kernel_rfl) (by repeat (first | exact trivial | refine ⟨rfl,?_⟩)) (by rfl) (by rfl) hk
          ·refine (Js Z Z Bb (.head _) Z Z (Ad 0 ((Eb Z Z Bk (.tail _ (.head _)) Z (Ad 2 ((C0 Z Z Bk Z Z (.tail .head) ?_)))))))
           exact B2 2 (by kernel_rfl) (by repeat (first | exact trivial | refine ⟨rfl,?_⟩)) (by rfl) (by rfl) hk) ?_
        exact Ad 3 ((Cf Z Z Bb Z .head (.head Z) Z (Ad 4 ((Ak Z Z (A6 (qn (Af (As ((Cm.mk g.folder (g.epoch+1) author (signR priv (Hq (cmC g author ch leaf ini bs ws wa pa ba wla wc pc bc wlc)).b) (signS priv (Hq (cmC g author ch leaf ini bs ws wa pa ba wla wc pc bc wlc)).b) g.last (cfB g author ch leaf ini bs ws wa pa ba wla wc pc bc wlc) ch ((Ef leaf).map (fun s:Dig=>Iz (Fm s))) bs ws wa pa ba wla wc pc bc wlc),(Ei g leaf ini)) Z (.cellW Z Bk (.tail _ (.head _)) Z (Hk Z Bb (.head _) Z (.tmp Z .nil))) (by rw [mdE_iff.2 hok]; rfl) ⟨fun _=>⟨⟨⟨Z,Z,Z,Z,Z,Z,hbl,fun i x y hx hy=>(hbr i x y hx hy).ok,hwd,hwb⟩,Z,Z⟩,Z,Z,hbr,hwr⟩,fun h=>absurd (mdE_iff.2 hok) h⟩ (Bl _) (fun w h=>⟨(pQ15 h),(pQ16 h),(pQ19 h),(pQ20 h),(h.2.2.1.1),(pQ22 h),tR⟩) (.inl Z))))))))))
end Go.Chx
