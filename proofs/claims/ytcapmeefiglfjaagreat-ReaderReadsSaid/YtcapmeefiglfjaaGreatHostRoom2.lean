/- A part of the proof. -/
import Derived.Test.YtcapmeefiglfjaaGreatCacheW
set_option maxHeartbeats 16000000
set_option maxRecDepth 100000
namespace Go.Proofs.YtcapmeefiglfjaaGreat
open Go.RowKit
theorem zdy {K:World→Prop} {w:World} {g:Nat} {t:TypeId} {u0 u1 u2 u3 u4 u5 u6 u7 u8 u9 u10 u11 u12 u13 u14 u15 u16 u17 u18:Value} (hB:Blk w g t #[u0,u1,u2,u3,u4,u5,u6,u7,u8,u9,u10,u11,u12,u13,u14,u15,u16,u17,u18]) (x0 x1 x2 x3 x4 x5 x6 x7:Value)
 (h:∀ wy,wy.heap.size=w.heap.size→aA w wy (fun b=>b=g)→Blk wy g t #[u0,u1,u2,u3,x0,x1,x2,x3,x4,x5,x6,x7,u12,u13,u14,u15,u16,u17,u18]→K wy):K ((((((((w.setCell ⟨g,4,none⟩ x0).setCell ⟨g,5,none⟩ x1).setCell ⟨g,6,none⟩ x2).setCell ⟨g,7,none⟩ x3).setCell ⟨g,8,none⟩ x4).setCell ⟨g,9,none⟩ x5).setCell ⟨g,10,none⟩ x6).setCell ⟨g,11,none⟩ x7):=by
 have t0:=aA.refl w (fun b=>b=g)
 have t1:=t0.set (g:=g) rfl 4 x0;replace hB:Blk _ g t #[u0,u1,u2,u3,x0,u5,u6,u7,u8,u9,u10,u11,u12,u13,u14,u15,u16,u17,u18]:=hB.set_ 4 x0;have t2:=t1.set (g:=g) rfl 5 x1;replace hB:Blk _ g t #[u0,u1,u2,u3,x0,x1,u6,u7,u8,u9,u10,u11,u12,u13,u14,u15,u16,u17,u18]:=hB.set_ 5 x1;have t3:=t2.set (g:=g) rfl 6 x2;replace hB:Blk _ g t #[u0,u1,u2,u3,x0,x1,x2,u7,u8,u9,u10,u11,u12,u13,u14,u15,u16,u17,u18]:=hB.set_ 6 x2;have t4:=t3.set (g:=g) rfl 7 x3;replace hB:Blk _ g t #[u0,u1,u2,u3,x0,x1,x2,x3,u8,u9,u10,u11,u12,u13,u14,u15,u16,u17,u18]:=hB.set_ 7 x3;have t5:=t4.set (g:=g) rfl 8 x4;replace hB:Blk _ g t #[u0,u1,u2,u3,x0,x1,x2,x3,x4,u9,u10,u11,u12,u13,u14,u15,u16,u17,u18]:=hB.set_ 8 x4;have t6:=t5.set (g:=g) rfl 9 x5;replace hB:Blk _ g t #[u0,u1,u2,u3,x0,x1,x2,x3,x4,x5,u10,u11,u12,u13,u14,u15,u16,u17,u18]:=hB.set_ 9 x5;have t7:=t6.set (g:=g) rfl 10 x6;replace hB:Blk _ g t #[u0,u1,u2,u3,x0,x1,x2,x3,x4,x5,x6,u11,u12,u13,u14,u15,u16,u17,u18]:=hB.set_ 10 x6;have t8:=t7.set (g:=g) rfl 11 x7;replace hB:Blk _ g t #[u0,u1,u2,u3,x0,x1,x2,x3,x4,x5,x6,x7,u12,u13,u14,u15,u16,u17,u18]:=hB.set_ 11 x7;exact h _ (by simp) t8 hB
theorem zcn {d:Zd} {h:Ho} {f:Fn} (hz:-9223372036854775808≤f.zone∧f.zone≤9223372036854775807) (hh:yA ⟨h.id,f.epoch,h.seq⟩):zbE (yB d h f).1∧(yB d h f).1.l=[]∧(yB d h f).1.buf.length≤140737488355328:=by
 have hp0:zbE p0k:=by unfold zbE yA p0k;simp
 unfold yB iV;split
 · exact ⟨hp0,rfl,by simp [p0k]⟩
 split
 · exact ⟨hp0,rfl,by simp [p0k]⟩
 rename_i h1;split
 · exact ⟨hp0,rfl,by simp [p0k]⟩
 have hl:=zfi ⟨h.id,f.epoch,h.seq⟩;refine ⟨⟨hh,hz,?_,?_,?_,?_⟩,rfl,?_⟩ <;> simp only <;> simp only [ziT] at h1
 · omega
 · omega
 · omega
 · simp
 · omega
def zfp (w:World) (g:Nat) (K:Nat→Prop) (h:Ho) (d:Zd):Prop:=∃ vo vs vb vl vm vz,Blk w g 169 (wrC h vo vs vb vl vm d vz)∧IsL Rp.fn w K vo h.own∧IsL Rp.sp w K vs h.s∧IsB w K vb h.p.buf∧IsL Rp.rc w K vl h.p.l∧IsL Rp.ex w K vm h.m∧IsL Rp.zone w K vz d.z
structure zdT (h:Ho):Prop where
 pk:zbE h.p
 zone:∀ f∈h.own,0≤f.zone
 id:-9223372036854775808≤h.id∧h.id≤9223372036854775807
 ep:∀ f∈h.own,-9223372036854775808≤f.epoch∧f.epoch≤9223372036854775807
 seq:0≤h.seq∧h.seq≤1000000000000
theorem zc4 (g:Nat) (h:Ho) (d:Zd) (need:Int) (K:Nat→Prop) (w:World) (hW:zfp w g K h d) (hKlt:∀ b,K b→b<w.heap.size∧b≠g) (ho:zdT h) (hn:d.z.length*40≤140737488355328) :
 Calls Tryz.prog 85 #[.pointer (some ⟨g,0,none⟩),.int .i64 need] w fun e w'=>e=.returned (.bool (fS d h need).2.2)∧zfp w' g (fun b=>K b∨w.heap.size≤b) (fS d h need).2.1 (fS d h need).1∧aA w w' (fun b=>b=g):=by
 obtain ⟨vo,vs,vb,vl,vm,vz,hB,h1,h2,h3,h4,h5,h6⟩:=hW;obtain ⟨Ao,co,rfl,-⟩:=h1.form;obtain ⟨As,cs,rfl,-⟩:=h2.form;obtain ⟨Ab,cb,rfl,-⟩:=aK h3;obtain ⟨Al,cl,rfl,-⟩:=h4.form;obtain ⟨Am,cm,rfl,-⟩:=h5.form;obtain ⟨Az,cz,rfl,-⟩:=h6.form;have hgl:=hB.lt;have E:=(((((((Kn.start w).know hB).give aB.list h1).give aB.list h2).give aB.bytes h3).give aB.list h4).give aB.list h5).give aB.list h6 |>.push 167 #[.pointer (some ⟨g,0,none⟩)]
 have hb1:=(zif w.heap.size w).alloc (zic _) (.cells #[.pointer (some ⟨g,0,none⟩)] 167);obtain ⟨res,hres⟩:∃ res,fS d h need=res:=⟨_,rfl⟩;rw [hres];have HRES:=zia hres;have HKL:=zia hKlt;clear hB h1 h2 h3 h4 h5 h6 hres hKlt;go_enter Tryz.func85,Tryz.ntmps85
 go_upto_region 1 with fail;generalize w.alloc (.cells #[.pointer (some ⟨g,0,none⟩)] 167)=w1 at E hb1 ⊢;have hs1:w.heap.size<w1.heap.size:=(E.at_ m0).lt;obtain ⟨q0,f0,t0⟩:=E.rules m0;obtain ⟨q1,f1,t1⟩:=E.rules m1;go_cut [23] (fun x23 wx=>x23=.bool (h.opn && decide (need≤gT h.p))∧Below w1.heap.size w1 wx)
 case first=>
  cases hop:h.opn with
  | false=>
    unfold wrC at q1;rw [hop] at q1;go_wp2;go_meet;exact ⟨by rw [hop];rfl,zif _ _⟩
  | true=>
    unfold wrC at q1;rw [hop] at q1;go_wp2_with fail;refine (sE _ h.p _ _ ⟨_,_,rfl,E.get m3,E.get m2⟩ ho.pk).mono ?_;rintro e w2 ⟨rfl,hb2⟩;go_wp2;go_meet;exact ⟨by rw [hop];rfl,hb2⟩
 case rest=>
  obtain ⟨rfl,hb2⟩:=hcut;have hb02:=hb1.trans (hb2.mono hb1.size);replace E:=E.step hb2;clear q0 f0 t0 q1 f1 t1;obtain ⟨q0,f0,t0⟩:=E.rules m0;obtain ⟨q1,f1,t1⟩:=E.rules m1;have km:∀ b,K b→K b∨w.heap.size≤b:=fun b h=>.inl h
  cases hf:(h.opn && decide (need≤gT h.p)) with
  | true=>
    have hr:res=(d,h,true):=by rw [←HRES.out];unfold fS;rw [zij (by simpa using hf)]
    subst hr;clear hf;go_wp2;go_ret;exact ⟨rfl,⟨_,_,_,_,_,_,E.at_ m1,(E.get m5).more km,(E.get m4).more km,(E.get m3).more km,(E.get m2).more km,(E.get m1).more km,(E.get m0).more km⟩,aA.of hb02⟩
  | false=>
    have hnf:¬(h.opn=true∧need≤gT h.p):=fun h2=>by rw [h2.1,ziu h2.2] at hf;cases hf
    obtain ⟨d1,hd1⟩:∃ d1,sW d h=d1:=⟨_,rfl⟩;have hr:=HRES.out;unfold fS at hr;rw [zig hnf,hd1] at hr;have HR:=zia hr;have HD1:=zia hd1;clear hr hd1 hf hnf HRES;go_upto_if 28 with fail
    go_cut [] (fun wx=>∃ A9 c9,Blk wx g 169 (wrC h (.slice Ao h.own.length co) (.slice As h.s.length cs) (.slice Ab h.p.buf.length cb) (.slice Al h.p.l.length cl) (.slice Am h.m.length cm) d1 (.slice A9 d1.z.length c9))∧IsL Rp.zone wx (fun b=>K b∨w1.heap.size≤b) (.slice A9 d1.z.length c9) d1.z∧aA wc wx (fun b=>b=g))
    case first=>
     cases hop:h.opn with
     | false=>
       have e:d1=d:=by rw [←HD1.out];unfold sW;rw [zig (by rw [hop];decide)]
       subst e;go_wp2;go_meet;exact ⟨_,_,E.at_ m1,(E.get m0).more fun b h=>.inl h,aA.refl _ _⟩
     | true=>
       have e:d1=(doZ d ⟨4,h.p.zone,h.p.h.epoch,0,0,[]⟩).1:=by rw [←HD1.out];unfold sW;rw [zij hop]
       have HE:=zia e;clear e;have hdo:=fun W a b c=>zdA g h (.slice Ao h.own.length co) (.slice As h.s.length cs) (.slice Ab h.p.buf.length cb) (.slice Al h.p.l.length cl) (.slice Am h.m.length cm) d Az cz ⟨4,h.p.zone,h.p.h.epoch,0,0,[]⟩ none 0 K W a b c (IsB.nil_ _ _) hn (show (0:Int)≤9223372036854775807 by decide)
       simp only [List.length_nil] at hdo;rw [←HE.out] at hdo;go_upto_region 4 with fail;have hb0:Below wc.heap.size wc wc.drew:=(zif _ _).drew;have HK:Hid (∀ W,Below wc.heap.size wc W→(∀ o,W.cell? ⟨w.heap.size,o,none⟩=(#[.pointer (some ⟨g,0,none⟩)]:Array Value)[o]?)∧(∀ o,W.cell? ⟨g,o,none⟩=(wrC h (.slice Ao h.own.length co) (.slice As h.s.length cs) (.slice Ab h.p.buf.length cb) (.slice Al h.p.l.length cl) (.slice Am h.m.length cm) d (.slice Az d.z.length cz))[o]?)):=zia fun W hb=>⟨((E.step hb).rules m0).1,((E.step hb).rules m1).1⟩
       refine cZ (S:=fun (L:Array Bool) (W:World)=>L.getD 15 false=true∨((∀ o,W.cell? ⟨w.heap.size,o,none⟩=(#[.pointer (some ⟨g,0,none⟩)]:Array Value)[o]?)∧(∀ o,W.cell? ⟨g,o,none⟩=(wrC h (.slice Ao h.own.length co) (.slice As h.s.length cs) (.slice Ab h.p.buf.length cb) (.slice Al h.p.l.length cl) (.slice Am h.m.length cm) d (.slice Az d.z.length cz))[o]?))) (by kernel_rfl) (.inr (HK.out _ hb0)) (fun hDn hSn=>?_)
       generalize wc.drew=wx at hb0 hDn hSn ⊢;refine aN (i:=0) (oi:=⟨some 29,_,_,_,_,_⟩) (v:=?_) (Si:=fun W=>(∀ o,W.cell? ⟨w.heap.size,o,none⟩=(#[.pointer (some ⟨g,0,none⟩)]:Array Value)[o]?)∧(∀ o,W.cell? ⟨g,o,none⟩=(wrC h (.slice Ao h.own.length co) (.slice As h.s.length cs) (.slice Ab h.p.buf.length cb) (.slice Al h.p.l.length cl) (.slice Am h.m.length cm) d (.slice Az d.z.length cz))[o]?)) rfl (by kernel_rfl) (by kernel_rfl) (by kernel_rfl) (fun _ _ _ h=>h) (fun L W hD hu hS=>hS.resolve_left (fun h=>by have h:=hD.2 15 _ rfl h ⟨0,.data⟩ (by simp) rfl;rw [hu] at h;cases h)) (fun L W=>by simp only [zjf false (show (0:Nat)≠15 by omega)]) (Or.inl ⟨by rfl,?hy⟩) (by assumption) (by assumption) (fun hDn hSn=>?_)
       case hy=>intro w hSw;(try dsimp only at hSw);go_simp;with_reducible rfl
       try simp only [pu,List.set]
       refine aN (i:=1) (oi:=⟨some 30,_,_,_,_,_⟩) (v:=?_) (Si:=fun W=>(∀ o,W.cell? ⟨w.heap.size,o,none⟩=(#[.pointer (some ⟨g,0,none⟩)]:Array Value)[o]?)∧(∀ o,W.cell? ⟨g,o,none⟩=(wrC h (.slice Ao h.own.length co) (.slice As h.s.length cs) (.slice Ab h.p.buf.length cb) (.slice Al h.p.l.length cl) (.slice Am h.m.length cm) d (.slice Az d.z.length cz))[o]?)) rfl (by kernel_rfl) (by kernel_rfl) (by kernel_rfl) (fun _ _ _ h=>h) (fun L W hD hu hS=>hS.resolve_left (fun h=>by have h:=hD.2 15 _ rfl h ⟨14,.data⟩ (by simp) rfl;have h:=hD.2 14 _ rfl h ⟨6,.data⟩ (by simp) rfl;have h:=hD.2 6 _ rfl h ⟨5,.data⟩ (by simp) rfl;have h:=hD.2 5 _ rfl h ⟨4,.data⟩ (by simp) rfl;have h:=hD.2 4 _ rfl h ⟨3,.data⟩ (by simp) rfl;have h:=hD.2 3 _ rfl h ⟨2,.data⟩ (by simp) rfl;have h:=hD.2 2 _ rfl h ⟨1,.data⟩ (by simp) rfl;rw [hu] at h;cases h)) (fun L W=>by simp only [zjf false (show (1:Nat)≠15 by omega)]) (Or.inl ⟨by rfl,?hy⟩) (by assumption) (by assumption) (fun hDn hSn=>?_)
       case hy=>intro w hSw;(try dsimp only at hSw);go_simp;with_reducible rfl
       refine wD 2 31 (fun hDn hSn=>?_)
       refine wD 3 32 (fun hDn hSn=>?_)
       refine wD 4 33 (fun hDn hSn=>?_)
       refine wD 5 34 (fun hDn hSn=>?_)
       refine aN (i:=6) (oi:=⟨some 35,_,_,_,_,_⟩) (v:=?_) (Si:=fun W=>(∀ o,W.cell? ⟨w.heap.size,o,none⟩=(#[.pointer (some ⟨g,0,none⟩)]:Array Value)[o]?)∧(∀ o,W.cell? ⟨g,o,none⟩=(wrC h (.slice Ao h.own.length co) (.slice As h.s.length cs) (.slice Ab h.p.buf.length cb) (.slice Al h.p.l.length cl) (.slice Am h.m.length cm) d (.slice Az d.z.length cz))[o]?)) rfl (by kernel_rfl) (by kernel_rfl) (by kernel_rfl) (fun _ _ _ h=>h) (fun L W hD hu hS=>hS.resolve_left (fun h=>by have h:=hD.2 15 _ rfl h ⟨14,.data⟩ (by simp) rfl;have h:=hD.2 14 _ rfl h ⟨6,.data⟩ (by simp) rfl;rw [hu] at h;cases h)) (fun L W=>by simp only [zjf false (show (6:Nat)≠15 by omega)]) (Or.inl ⟨by rfl,?hy⟩) (by assumption) (by assumption) (fun hDn hSn=>?_)
       case hy=>intro w hSw;(try dsimp only at hSw);go_simp;with_reducible rfl
       try simp only [pu,List.set]
       refine aN (i:=7) (oi:=⟨some 36,_,_,_,_,_⟩) (v:=?_) (Si:=fun W=>(∀ o,W.cell? ⟨w.heap.size,o,none⟩=(#[.pointer (some ⟨g,0,none⟩)]:Array Value)[o]?)∧(∀ o,W.cell? ⟨g,o,none⟩=(wrC h (.slice Ao h.own.length co) (.slice As h.s.length cs) (.slice Ab h.p.buf.length cb) (.slice Al h.p.l.length cl) (.slice Am h.m.length cm) d (.slice Az d.z.length cz))[o]?)) rfl (by kernel_rfl) (by kernel_rfl) (by kernel_rfl) (fun _ _ _ h=>h) (fun L W hD hu hS=>hS.resolve_left (fun h=>by have h:=hD.2 15 _ rfl h ⟨14,.data⟩ (by simp) rfl;have h:=hD.2 14 _ rfl h ⟨13,.data⟩ (by simp) rfl;have h:=hD.2 13 _ rfl h ⟨12,.data⟩ (by simp) rfl;have h:=hD.2 12 _ rfl h ⟨11,.data⟩ (by simp) rfl;have h:=hD.2 11 _ rfl h ⟨10,.data⟩ (by simp) rfl;have h:=hD.2 10 _ rfl h ⟨9,.data⟩ (by simp) rfl;have h:=hD.2 9 _ rfl h ⟨8,.data⟩ (by simp) rfl;have h:=hD.2 8 _ rfl h ⟨7,.data⟩ (by simp) rfl;rw [hu] at h;cases h)) (fun L W=>by simp only [zjf false (show (7:Nat)≠15 by omega)]) (Or.inl ⟨by rfl,?hy⟩) (by assumption) (by assumption) (fun hDn hSn=>?_)
       case hy=>intro w hSw;(try dsimp only at hSw);go_simp;with_reducible rfl
       refine wD 8 37 (fun hDn hSn=>?_)
       refine wD 9 38 (fun hDn hSn=>?_)
       refine wD 10 39 (fun hDn hSn=>?_)
       refine wD 11 40 (fun hDn hSn=>?_)
       refine wD 12 41 (fun hDn hSn=>?_)
       refine aN (i:=13) (oi:=⟨some 42,_,_,_,_,_⟩) (v:=?_) (Si:=fun W=>(∀ o,W.cell? ⟨w.heap.size,o,none⟩=(#[.pointer (some ⟨g,0,none⟩)]:Array Value)[o]?)∧(∀ o,W.cell? ⟨g,o,none⟩=(wrC h (.slice Ao h.own.length co) (.slice As h.s.length cs) (.slice Ab h.p.buf.length cb) (.slice Al h.p.l.length cl) (.slice Am h.m.length cm) d (.slice Az d.z.length cz))[o]?)) rfl (by kernel_rfl) (by kernel_rfl) (by kernel_rfl) (fun _ _ _ h=>h) (fun L W hD hu hS=>hS.resolve_left (fun h=>by have h:=hD.2 15 _ rfl h ⟨14,.data⟩ (by simp) rfl;have h:=hD.2 14 _ rfl h ⟨13,.data⟩ (by simp) rfl;rw [hu] at h;cases h)) (fun L W=>by simp only [zjf false (show (13:Nat)≠15 by omega)]) (Or.inl ⟨by rfl,?hy⟩) (by assumption) (by assumption) (fun hDn hSn=>?_)
       case hy=>intro w hSw;(try dsimp only at hSw);go_simp;with_reducible rfl
       refine wD 14 43 (fun hDn hSn=>?_)
       refine aR (i:=15) (o:=⟨some 44,_,_,_,_,_⟩) (by kernel_rfl) rfl (by assumption) (fun K hK=>?_)
       go_simp;refine (hdo _ ((E.step hb0).at_ m1) ((E.step hb0).get m0) (fun b hb=>by have:=HKL.out b hb;have:=hb0.size;omega)).mono ?_
       rintro e w5 ⟨A9,c9,rfl,hB9,hz9,ht9⟩;go_wp2_with fail;refine hK.out _ _ (.inl (by kernel_rfl)) (fun hDn hSn=>?_)
       clear hK K;try simp only [pu,List.set]
       refine cX (by kernel_rfl) ?_ _
       go_wp2_with fail;go_meet;exact ⟨A9,c9,hB9,hz9.more (fun b hb=>by rcases hb with hb | hb;exact .inl hb;exact .inr (by have:=hb0.size;have:=hb2.size;omega)),(aA.of hb0).trans ht9⟩
    case rest=>
     obtain ⟨A9,c9,hB9,hz9,ht9⟩:=hcut;have kn:∀ b,K b→¬b=g:=fun b hb=>(HKL.out b hb).2
     have a1:=(E.get m5).turned ht9 kn;have a2:=(E.get m4).turned ht9 kn;have a3:=(E.get m3).turned ht9 kn;have a4:=(E.get m2).turned ht9 kn;have a5:=(E.get m1).turned ht9 kn;have hP:=(E.at_ m0).turned ht9 (show ¬w.heap.size=g by omega)
     have hT9:=(aA.of (S:=fun b=>b=g) hb02).trans ht9
     have E9:=((((((((Kn.start wc).know hP).know hB9).give aB.list a1).give aB.list a2).give aB.bytes a3).give aB.list a4).give aB.list a5).give aB.list hz9;clear E q0 f0 t0 q1 f1 t1 hB9 hz9 ht9 a1 a2 a3 a4 a5 hP;have hix:=fun W a b c e=>zaG w.heap.size g h (.slice Ao h.own.length co) (.slice As h.s.length cs) (.slice Ab h.p.buf.length cb) (.slice Al h.p.l.length cl) (.slice Am h.m.length cm) d1 A9 c9 Ao co h.own (fun b=>K b∨w1.heap.size≤b) K W a b c e ho.zone
     obtain ⟨p,hp⟩:∃ p,h.own.findIdx (eT d1)=p:=⟨_,rfl⟩;have HP:=zia hp;rw [hp] at hix HR;clear hp;obtain ⟨q0,f0,t0⟩:=E9.rules m1;obtain ⟨q1,f1,t1⟩:=E9.rules m0;go_wp2_with fail;refine (hix _ (E9.at_ m1) (E9.at_ m0) (E9.get m0) (E9.get m5)).mono ?_;rintro e w5 ⟨rfl,hb5⟩;clear q0 f0 t0 q1 f1 t1 hix;replace E9:=E9.step hb5;replace hT9:=hT9.trans (aA.of hb5);obtain ⟨q0,f0,t0⟩:=E9.rules m1;obtain ⟨q1,f1,t1⟩:=E9.rules m0;by_cases hpl:p<h.own.length
     case neg=>
      rw [zig hpl];have hr:res=(d1,h,false):=by
       have:=HR.out;rw [ziX (by omega)] at this
       exact this.symm
      subst hr;clear HR;go_wp2;go_ret;exact ⟨rfl,⟨_,_,_,_,_,_,E9.at_ m0,(E9.get m5).more km,(E9.get m4).more km,(E9.get m3).more km,(E9.get m2).more km,(E9.get m1).more km,(E9.get m0).more fun b hb=>hb.imp id (by omega)⟩,hT9⟩
     rw [zij hpl];obtain ⟨f,hf⟩:∃ f,h.own[p]?=some f:=⟨_,zib hpl⟩;have hfm:=zix hf;have hfree:eT d1 f=true:=by
      obtain ⟨hlt,e⟩:=zil.1 hf;rw [←e];have hlt':h.own.findIdx (eT d1)<h.own.length:=by rw [HP.out];exact hpl
      have:=zjc (w:=hlt');simp only [HP.out] at this;exact this
     have hr:=HR.out;rw [hf] at hr;simp only at hr;obtain ⟨ad,rfl,-,c0,c1,c2⟩:=zbl (E9.get m5) hf;have hfz:=ho.zone f hfm;have hfe:=ho.ep f hfm;have hzl:f.zone≤9223372036854775807:=by
      unfold eT at hfree;simp only [zjC,ziM] at hfree;have:=(E9.get m0).len;omega
     have hok:yA ⟨h.id,f.epoch,h.seq⟩:=⟨ho.id,hfe,by have:=ho.seq;simp only;omega⟩
     have hbk:=zcn (d:=d1) (h:=h) (f:=f) ⟨by omega,hzl⟩ hok
     have hbg:=fun W=>zaF ⟨h.id,f.epoch,h.seq⟩ f.zone d1.cap W hok
     have hbe:iV ⟨h.id,f.epoch,h.seq⟩ f.zone d1.cap=yB d1 h f:=rfl;rw [hbe] at hbg;obtain ⟨pe,hpe⟩:∃ pe,yB d1 h f=pe:=⟨_,rfl⟩;rw [hpe] at hbg hr hbk;obtain ⟨pk,e⟩:=pe;simp only at hbg hr hbk;have HR2:=zia hr;clear hr hbe hpe HR hf hfm hfree hok;unfold hdV pkV at hbg;have i0:(0:Int)≤(p:Int):=by omega
     have i1:(p:Int)<(h.own.length:Int):=by omega
     go_upto_region 9 with fail;have E10:=E9.push 138 #[.int .i64 f.zone,.int .i64 f.host,.int .i64 f.epoch];have hb6:=(zif w5.heap.size w5).alloc (zic _) (.cells #[.int .i64 f.zone,.int .i64 f.host,.int .i64 f.epoch] 138);generalize w5.alloc (.cells #[.int .i64 f.zone,.int .i64 f.host,.int .i64 f.epoch] 138)=w6 at E10 hb6 ⊢;have hs6:w5.heap.size<w6.heap.size:=(E10.at_ m0).lt;have hs56:=hb5.size;have hsw:w.heap.size<w5.heap.size:=t0;clear q0 f0 t0 q1 f1 t1 c0 c1 c2 E9;go_cut [7,8] (fun x7 x8 wx=>∃ gp Ap cp,x7=.pointer (some ⟨gp,0,none⟩)∧x8=.int .i64 e∧w6.heap.size≤gp∧Blk wx gp 34 (pkC pk (.slice Ap pk.buf.length cp) (.slice none 0 0))∧IsB wx (fun b=>w6.heap.size≤b∧b≠gp) (.slice Ap pk.buf.length cp) pk.buf∧Below w6.heap.size w6 wx)
     case first=>
      have hb0:Below w6.heap.size w6 w6.drew:=(zif _ _).drew;have HK:Hid (∀ W,Below w6.heap.size w6 W→(∀ o,W.cell? ⟨w.heap.size,o,none⟩=(#[.pointer (some ⟨g,0,none⟩)]:Array Value)[o]?)∧(∀ o,W.cell? ⟨g,o,none⟩=(wrC h (.slice (some ad) h.own.length co) (.slice As h.s.length cs) (.slice Ab h.p.buf.length cb) (.slice Al h.p.l.length cl) (.slice Am h.m.length cm) d1 (.slice A9 d1.z.length c9))[o]?)∧(∀ o,W.cell? ⟨w5.heap.size,o,none⟩=(#[.int .i64 f.zone,.int .i64 f.host,.int .i64 f.epoch]:Array Value)[o]?)):=zia fun W hb=>⟨((E10.step hb).rules m2).1,((E10.step hb).rules m1).1,((E10.step hb).rules m0).1⟩
      refine wp_region_held_drew (S:=fun W=>(∀ o,W.cell? ⟨w.heap.size,o,none⟩=(#[.pointer (some ⟨g,0,none⟩)]:Array Value)[o]?)∧(∀ o,W.cell? ⟨g,o,none⟩=(wrC h (.slice (some ad) h.own.length co) (.slice As h.s.length cs) (.slice Ab h.p.buf.length cb) (.slice Al h.p.l.length cl) (.slice Am h.m.length cm) d1 (.slice A9 d1.z.length c9))[o]?)∧(∀ o,W.cell? ⟨w5.heap.size,o,none⟩=(#[.int .i64 f.zone,.int .i64 f.host,.int .i64 f.epoch]:Array Value)[o]?)) (by kernel_rfl) (HK.out _ hb0) (fun hHeld=>?_)
      have hbx:=hb0;generalize w6.drew=wx at hbx hHeld ⊢;refine wT 0 63 ?_;refine wT 1 64 ?_;refine wT 2 65 ?_;refine wT 3 66 ?_;refine wT 4 67 ?_;refine wT 5 68 ?_;refine wT 6 69 ?_;refine wT 7 70 ?_;refine wT 8 71 ?_;refine wT 9 72 ?_;refine wT 10 73 ?_;refine wT 11 74 ?_;refine wT 12 75 ?_;refine wT 13 76 ?_;refine wT 14 77 ?_;refine wT 15 78 ?_;refine wT 16 79 ?_;refine wT 17 80 ?_;refine wT 18 81 ?_;refine wT 19 82 ?_;refine wpAnyH_ready (rs:=[20,24]) (by kernel_rfl) (by simp) ?_
      refine AllReadyH.cons (o:=⟨some 83,_,_,_,_,_⟩) rfl (fun K hK=>?_) ?_
      · obtain ⟨n0,hn0⟩:∃ n0,wx.heap.size=n0:=⟨_,rfl⟩
        go_simp;refine (hbg _).mono ?_;have hnw:w6.heap.size≤n0:=by rw [←hn0];exact hbx.size
        rintro e9 wx ⟨Ap,cp,rfl,ownp,hbn⟩;obtain ⟨n1,hn1⟩:∃ n1,wx.heap.size=n1:=⟨_,rfl⟩;have hz:IsB wx (fun b=>n0≤b∧b<n1) (.slice Ap pk.buf.length cp) pk.buf:=by rw [←hn0,←hn1];exact (IsB.of_own ownp hbk.2.2).lt
        first | (have hpz:gp<n0∨n1≤gp:=.inl (by have:=hBp.lt;omega)) | skip
        first | replace hBp:=hBp.step hbn | skip
        replace hbx:=hbx.trans (hbn.mono hbx.size);have hnx:n1≤wx.heap.size:=zjA hn1.symm;clear ownp hn0 hn1;go_wp2_with fail;refine hK.out _ _ (HK.out _ hbx) (fun hHeld=>?_)
        clear hK K;refine wT 21 62 ?_;refine wT 22 84 ?_;refine wT 23 85 ?_;refine wR 24 7 (fun K hK=>?_)
        obtain ⟨gp,hgp⟩:∃ gp,wx.heap.size=gp:=⟨_,rfl⟩;go_simp;try rw [hgp]
        refine bD (K:=K _) ?_;intro wx hby hBp;rw [hgp] at hBp;have hlp:w6.heap.size≤gp:=by rw [←hgp];exact hbx.size
        first | (have hpz:gp<n0∨n1≤gp:=.inr (by rw [←hgp];exact hnx)) | skip
        first | replace hz:=hz.step hby | skip
        replace hbx:=hbx.trans (hby.mono hbx.size);refine hK.out _ _ (HK.out _ hbx) (fun hHeld=>?_)
        clear hK K;try simp only [pu,List.set]
        refine wRn 25 (fun K hK=>?_)
        obtain ⟨q0,f0⟩:=hBp.rules;have t0:=hBp.lt;go_simp;refine zfr (K:=K _) hBp _ _ _ _ _ _ _ _ ?_;intro wx htx hBp';replace hz:=hz.turned htx (fun b hb e=>by have:=hb.1;have:=hb.2;omega)
        replace hbx:=aA.upon hbx htx hlp (zic _);clear q0 f0 t0 hBp;have hBp:=hBp';refine hK.out _ _ (HK.out _ hbx) (fun hHeld=>?_)
        clear hK K;refine wT 26 8 ?_;refine wpAnyH_done (by kernel_rfl) ?_ _
        go_wp2_with fail;go_meet;exact ⟨gp,Ap,cp,rfl,rfl,hlp,hBp,hz.more (fun b hb=>⟨by omega,by have:=hb.1;have:=hb.2;omega⟩),hbx⟩
      refine AllReadyH.cons (o:=⟨some 7,_,_,_,_,_⟩) rfl (fun K hK=>?_) ?_
      · obtain ⟨gp,hgp⟩:∃ gp,wx.heap.size=gp:=⟨_,rfl⟩
        go_simp;try rw [hgp]
        refine bD (K:=K _) ?_;intro wx hby hBp;rw [hgp] at hBp;have hlp:w6.heap.size≤gp:=by rw [←hgp];exact hbx.size
        first | (have hpz:gp<n0∨n1≤gp:=.inr (by rw [←hgp];exact hnx)) | skip
        first | replace hz:=hz.step hby | skip
        replace hbx:=hbx.trans (hby.mono hbx.size);refine hK.out _ _ (HK.out _ hbx) (fun hHeld=>?_)
        clear hK K;try simp only [pu,List.set]
        refine wR 20 83 (fun K hK=>?_)
        obtain ⟨n0,hn0⟩:∃ n0,wx.heap.size=n0:=⟨_,rfl⟩;go_simp;refine (hbg _).mono ?_;have hnw:w6.heap.size≤n0:=by rw [←hn0];exact hbx.size
        rintro e9 wx ⟨Ap,cp,rfl,ownp,hbn⟩;obtain ⟨n1,hn1⟩:∃ n1,wx.heap.size=n1:=⟨_,rfl⟩;have hz:IsB wx (fun b=>n0≤b∧b<n1) (.slice Ap pk.buf.length cp) pk.buf:=by rw [←hn0,←hn1];exact (IsB.of_own ownp hbk.2.2).lt
        first | (have hpz:gp<n0∨n1≤gp:=.inl (by have:=hBp.lt;omega)) | skip
        first | replace hBp:=hBp.step hbn | skip
        replace hbx:=hbx.trans (hbn.mono hbx.size);have hnx:n1≤wx.heap.size:=zjA hn1.symm;clear ownp hn0 hn1;go_wp2_with fail;refine hK.out _ _ (HK.out _ hbx) (fun hHeld=>?_)
        clear hK K;refine wT 21 62 ?_;refine wT 22 84 ?_;refine wT 23 85 ?_;refine wRn 25 (fun K hK=>?_)
        obtain ⟨q0,f0⟩:=hBp.rules;have t0:=hBp.lt;go_simp;refine zfr (K:=K _) hBp _ _ _ _ _ _ _ _ ?_;intro wx htx hBp';replace hz:=hz.turned htx (fun b hb e=>by have:=hb.1;have:=hb.2;omega)
        replace hbx:=aA.upon hbx htx hlp (zic _);clear q0 f0 t0 hBp;have hBp:=hBp';refine hK.out _ _ (HK.out _ hbx) (fun hHeld=>?_)
        clear hK K;refine wT 26 8 ?_;refine wpAnyH_done (by kernel_rfl) ?_ _
        go_wp2_with fail;go_meet;exact ⟨gp,Ap,cp,rfl,rfl,hlp,hBp,hz.more (fun b hb=>⟨by omega,by have:=hb.1;have:=hb.2;omega⟩),hbx⟩
      exact AllReadyH.nil
     case rest=>
      obtain ⟨gp,Ap,cp,rfl,rfl,hlp,hBp,hbf,hb7⟩:=hcut;have hgg:g≠gp:=by have:=hgl;omega
      have hgw:w.heap.size≠gp:=by omega
      replace E10:=E10.step hb7;replace hT9:=(hT9.trans (aA.of hb6)).trans (aA.of hb7);have t0:=hBp.lt;obtain ⟨q0,f0⟩:=hBp.rules;go_upto_region 10 with fail;go_cut [] (fun wx=>Blk wx g 169 (wrC ⟨h.id,h.own,h.s,true,pk,h.m,h.ver,h.seq⟩ (.slice (some ad) h.own.length co) (.slice As h.s.length cs) (.slice Ap pk.buf.length cp) (.slice none 0 0) (.slice Am h.m.length cm) d1 (.slice A9 d1.z.length c9))∧aA wc wx (fun b=>b=g))
      case first=>
       have hBP:=E10.at_ m2;have hBg:=E10.at_ m1;have HK:Hid (∀ W,aA wc W (fun b=>b=g)→(∀ o,W.cell? ⟨w.heap.size,o,none⟩=(#[.pointer (some ⟨g,0,none⟩)]:Array Value)[o]?)∧(∀ o,W.cell? ⟨gp,o,none⟩=(pkC pk (.slice Ap pk.buf.length cp) (.slice none 0 0))[o]?)):=zia fun W ht=>⟨(hBP.turned ht (show ¬w.heap.size=g by omega)).rules.1,(hBp.turned ht (fun e=>hgg e.symm)).rules.1⟩
       have hb0:aA wc wc.drew (fun b=>b=g):=(aA.refl _ _).drew
       refine wp_region_held_drew (S:=fun W=>(∀ o,W.cell? ⟨w.heap.size,o,none⟩=(#[.pointer (some ⟨g,0,none⟩)]:Array Value)[o]?)∧(∀ o,W.cell? ⟨gp,o,none⟩=(pkC pk (.slice Ap pk.buf.length cp) (.slice none 0 0))[o]?)) (by kernel_rfl) (HK.out _ hb0) (fun hHeld=>?_)
       replace hBg:=hBg.drew;have hbx:=hb0;clear q0 f0 t0;generalize wc.drew=wx at hbx hBg hHeld ⊢;refine wT 0 86 ?_;refine wT 1 87 ?_;refine wT 2 88 ?_;refine wT 3 89 ?_;refine wT 4 90 ?_;refine wT 5 91 ?_;refine wRn 6 (fun K hK=>?_)
       obtain ⟨q0,f0⟩:=hBg.rules;have t0:=hBg.lt;go_simp;refine cF (K:=K _) hBg 3 _ ?_;intro wx hsx htx hBg';replace hbx:=hbx.trans htx;clear q0 f0 t0 hBg;have hBg:Blk wx g 169 (wrC ⟨h.id,h.own,h.s,true,h.p,h.m,h.ver,h.seq⟩ (.slice (some ad) h.own.length co) (.slice As h.s.length cs) (.slice Ab h.p.buf.length cb) (.slice Al h.p.l.length cl) (.slice Am h.m.length cm) d1 (.slice A9 d1.z.length c9)):=hBg';clear hBg';refine hK.out _ _ (HK.out _ hbx) (fun hHeld=>?_)
       clear hK K;refine wT 7 92 ?_;refine wT 8 93 ?_;refine wT 9 94 ?_;refine wRn 10 (fun K hK=>?_)
       obtain ⟨q0,f0⟩:=hBg.rules;have t0:=hBg.lt;go_simp;refine zdy (K:=K _) hBg _ _ _ _ _ _ _ _ ?_;intro wx hsx htx hBg';replace hbx:=hbx.trans htx;clear q0 f0 t0 hBg;have hBg:=hBg';refine hK.out _ _ (HK.out _ hbx) (fun hHeld=>?_)
       clear hK K;try simp only [pu,List.set]
       refine wpAnyH_done (by kernel_rfl) ?_ _
       go_wp2_with fail;go_meet;exact ⟨hBg,hbx⟩
      case rest=>
       obtain ⟨hBg,ht10⟩:=hcut;have hT10:=hT9.trans ht10;have kz:∀ b,(K b∨w1.heap.size≤b)→¬b=g:=fun b hb e=>by rcases hb with hb | hb;exact kn b hb e;omega
       have hBP:=(E10.at_ m2).turned ht10 (show ¬w.heap.size=g by omega)
       have hBp2:=hBp.turned ht10 (fun e=>hgg e.symm)
       have b0:=(E10.get m0).turned ht10 kz;have b1:=(E10.get m5).turned ht10 kn;have b2:=(E10.get m4).turned ht10 kn;have b3:=hbf.turned ht10 (fun b hb e=>by have:=hb.1;omega)
       have b5:=(E10.get m1).turned ht10 kn;have ww:IntKind.i64.wrap (h.seq+1)=h.seq+1:=ziI _ (by have:=ho.seq;omega)
       clear E10 hBp hbf q0 f0 t0;obtain ⟨q0,f0⟩:=hBP.rules;obtain ⟨q1,f1⟩:=hBg.rules;have t0:=hBP.lt;have t1:=hBg.lt;go_upto_region 12 with fail;refine cF (K:=fun W=>Code.wp _ _ _ _ W) hBg 14 _ ?_
       intro w11 hs11 ht11 hB11;have hB11':Blk w11 g 169 (wrC ⟨h.id,h.own,h.s,true,pk,h.m,h.ver,h.seq+1⟩ (.slice (some ad) h.own.length co) (.slice As h.s.length cs) (.slice Ap pk.buf.length cp) (.slice none 0 0) (.slice Am h.m.length cm) d1 (.slice A9 d1.z.length c9)):=hB11;have hBp3:=hBp2.turned ht11 (fun e=>hgg e.symm)
       have d0:=b0.turned ht11 kz;have d1':=b1.turned ht11 kn;have d2:=b2.turned ht11 kn;have d3:=b3.turned ht11 (fun b hb e=>by have:=hb.1;omega)
       have d5:=b5.turned ht11 kn;have hT11:=hT10.trans ht11;clear q0 f0 t0 q1 f1 t1 hBg hB11 hBP hBp2 b0 b1 b2 b3 b5 ww hs11;have hl0:∀ W,IsL Rp.rc W (fun b=>w6.heap.size≤b∧b≠gp) (.slice none 0 0) pk.l:=fun W=>by rw [hbk.2.1];exact IsL.nil_ _ _
       have E:=((Kn.start w11).know hB11').know hBp3 |>.give aB.bytes d3 |>.give aB.list d0 |>.give aB.list d1' |>.give aB.list d2 |>.give aB.list d5
       obtain ⟨q0,f0,t0⟩:=E.rules m0;have hkb:∀ b,(w6.heap.size≤b∧b≠gp)→K b∨w.heap.size≤b:=fun b hb=>.inr (by have:=hb.1;omega)
       by_cases he:e=0
       · subst he
         go_wp2_with fail;refine (sE _ pk (fun b=>w6.heap.size≤b∧b≠gp) _ ⟨_,_,rfl,E.get m4,hl0 _⟩ hbk.1).mono ?_
         rintro e w12 ⟨rfl,hb12⟩;replace E:=E.step hb12;clear q0 f0 t0;have hr:=HR2.out;simp only [decide_true,zku] at hr;subst hr;clear HR2;go_wp2;go_ret;exact ⟨rfl,⟨_,_,_,_,_,_,E.at_ m1,(E.get m2).more km,(E.get m1).more km,(E.get m4).more hkb,by rw [hbk.2.1];exact IsL.nil_ _ _,(E.get m0).more km,(E.get m3).more fun b hb=>hb.imp id (by omega)⟩,hT11.trans (aA.of hb12)⟩
       · have he2:(e == (0:Int))=false:=by simpa using he
         have hr:=HR2.out;rw [ziv he,Bool.false_and] at hr;subst hr;clear HR2;go_wp2;go_ret;exact ⟨rfl,⟨_,_,_,_,_,_,E.at_ m1,(E.get m2).more km,(E.get m1).more km,(E.get m4).more hkb,by rw [hbk.2.1];exact IsL.nil_ _ _,(E.get m0).more km,(E.get m3).more fun b hb=>hb.imp id (by omega)⟩,hT11⟩
