/- A part of the proof. -/
import Derived.Test.YtfhpolidjmbjoaaGreatReplayFound
set_option maxHeartbeats 4000000
set_option maxRecDepth 100000
namespace Go.Proofs.YtfhpolidjmbjoaaGreat
open Go.RowKit
theorem pdata_any (r:Rc) (v:Value) (K:Nat→Prop) (w:World) (hr:OkRc r) (hv:IsB w K v r.data) :
 Calls Tryz.prog 80 #[rcV r v] w fun e w'=>e=.returned (.tuple #[.int .i64 (dataL r),.int .i64 (recL r).2])∧Below w.heap.size w w':=by
 have hv0:=hv;obtain ⟨A,c,rfl,hl47⟩:=isB_form hv;have hrec:=fun W h=>rec_any r (.slice A r.data.length c) K W hr h
 have hln:=recL_len hr;unfold dataL;generalize recL r=y at hrec hln ⊢;obtain ⟨fb,fe⟩:=y;simp only at hrec hln ⊢;unfold rcV at hrec ⊢;have E:=((Kn.start w).give Stable.bytes hv0).push 106 #[.int .i64 r.kind,.int .i64 r.lba,.int .i64 r.n,.int .i64 r.ver,.int .i64 r.zone,.int .i64 r.off,.slice A r.data.length c];obtain ⟨h1,h2⟩:=hln;by_cases hfe:fe=0
 · subst hfe
   have h3:=h2 rfl;rw [if_neg (by simp)]
   clear h2;go_enter Tryz.func80,Tryz.ntmps80
   go_wp2_with fail;refine (hrec _ (E.get m0)).mono ?_;rintro e w1 ⟨A4,c4,rfl,own4,hb4⟩;replace E:=E.step hb4;obtain ⟨q0,f0,t0⟩:=E.rules m0;go_wp2;refine bodyPost_ret (v:=.tuple #[.int .i64 (fb.length-4-r.data.length),.int .i64 0]) (by simp [results,Tryz.results80,go_sem]) rfl ⟨rfl,E.below⟩
 · rw [if_pos hfe]
   have hf2:(fe != 0)=true:=by simpa using hfe
   clear h2 hfe;go_enter Tryz.func80,Tryz.ntmps80
   go_wp2_with fail;refine (hrec _ (E.get m0)).mono ?_;rintro e w1 ⟨A4,c4,rfl,own4,hb4⟩;replace E:=E.step hb4;obtain ⟨q0,f0,t0⟩:=E.rules m0;go_wp2;refine bodyPost_ret (v:=.tuple #[.int .i64 0,.int .i64 fe]) (by simp [results,Tryz.results80,go_sem]) rfl ⟨rfl,E.below⟩
theorem IsL.fd_at {w:World} {K:Nat→Prop} {A:Option Addr} {n c:Nat} {l:List Fd} (h:IsL Rp.fd w K (.slice A n c) l) {j:Nat} {f:Fd} (hj:l[j]?=some f) :
 ∃ ad A1 c1 A2 c2,A=some ad∧K ad.block∧IsL Rp.rc w K (.slice A1 f.l.length c1) f.l∧IsL Rp.int w K (.slice A2 f.at_.length c2) f.at_ ∧
   w.cell? (ad.add (j*7))=some (.bool f.head)∧w.cell? ⟨(ad.add (j*7)).block,(ad.add (j*7)).off+1,none⟩=some (.int .i64 f.h.host)∧w.cell? ⟨(ad.add (j*7)).block,(ad.add (j*7)).off+2,none⟩=some (.int .i64 f.h.epoch) ∧
   w.cell? ⟨(ad.add (j*7)).block,(ad.add (j*7)).off+3,none⟩=some (.int .i64 f.h.seq)∧w.cell? ⟨(ad.add (j*7)).block,(ad.add (j*7)).off+4,none⟩=some (.slice A1 f.l.length c1)∧w.cell? ⟨(ad.add (j*7)).block,(ad.add (j*7)).off+5,none⟩=some (.slice A2 f.at_.length c2) ∧
   w.cell? ⟨(ad.add (j*7)).block,(ad.add (j*7)).off+6,none⟩=some (.int .i64 f.used):=by
 obtain ⟨ad,es,hA,hKad,hes,hcell⟩:=h.at_ hj;obtain ⟨vl,va,rfl,h1,h2⟩:=hes;obtain ⟨A1,c1,rfl,_⟩:=h1.form;obtain ⟨A2,c2,rfl,_⟩:=h2.form;have hsz7:Rp.fd.size=7:=rfl;rw [hsz7] at hcell;refine ⟨ad,A1,c1,A2,c2,hA,hKad,h1,h2,?_,?_,?_,?_,?_,?_,?_⟩
 · rw [←addr0 (ad.add (j*7))];exact hcell 0 _ rfl
 · rw [←addrS _ 1 (by decide)];exact hcell 1 _ rfl
 · rw [←addrS _ 2 (by decide)];exact hcell 2 _ rfl
 · rw [←addrS _ 3 (by decide)];exact hcell 3 _ rfl
 · rw [←addrS _ 4 (by decide)];exact hcell 4 _ rfl
 · rw [←addrS _ 5 (by decide)];exact hcell 5 _ rfl
 · rw [←addrS _ 6 (by decide)];exact hcell 6 _ rfl
def tornT (zs:List Zn) (j:Nat):List Int:=((List.range j).filter fun (i:Nat)=>decide ((scanL (zs.getD i z0).d).used<(zs.getD i z0).d.length)).map fun (i:Nat)=>(i:Int)
theorem tornT_succ (zs:List Zn) (j:Nat):tornT zs (j+1)=tornT zs j++(if (scanL (zs.getD j z0).d).used<(zs.getD j z0).d.length then [(j:Int)] else []):=by
 unfold tornT;rw [List.range_succ,List.filter_append,List.map_append];congr 1
 simp only [List.filter_cons,List.filter_nil];by_cases h:(scanL (zs.getD j z0).d).used<(zs.getD j z0).d.length
 · rw [if_pos (decide_eq_true h),if_pos h];rfl
 · rw [if_neg (by simpa using h),if_neg h];rfl
theorem tornT_len (zs:List Zn) (j:Nat):(tornT zs j).length≤j:=by
 unfold tornT;rw [List.length_map];have:=List.length_filter_le (fun (i:Nat)=>decide ((scanL (zs.getD i z0).d).used<(zs.getD i z0).d.length)) (List.range j)
 rw [List.length_range] at this;exact this
theorem rtorn_any (d:Zd) (A:Option Addr) (c:Nat) (K:Nat→Prop) (w:World) (hv:IsL Rp.zone w K (.slice A d.z.length c) d.z) (hd:okD d) :
 Calls Tryz.prog 48 #[.agg #[.int .i64 d.cap,.int .i64 d.opn,.int .i64 d.act,.slice A d.z.length c]] w fun e w'=>∃ Ao co,e=.returned (.slice Ao (tornT d.z d.z.length).length co) ∧
  w'.ownsRow w.heap.size 3 1 (.slice Ao (tornT d.z d.z.length).length co) (tornT d.z d.z.length).length ((tornT d.z d.z.length).map I64)∧Below w.heap.size w w':=by
 obtain ⟨i0,hi,hz0,hz1,hz2⟩:=info_parts Tryz.infInt;have hfo:=fun W h=>found_any d A c K W h hd
 have hfl:(foundL d.z).length=d.z.length:=by unfold foundL;rw [List.length_map]
 have hzl:∀ z∈d.z,z.d.length≤1000000000:=fun z hz=>by
  obtain ⟨h1,h2,h3,h4⟩:=hd.2.2.2 z hz;have:=hd.1;omega
 have E:=((Kn.start w).give Stable.list hv).push 34 #[.int .i64 d.cap,.int .i64 d.opn,.int .i64 d.act,.slice A d.z.length c];obtain ⟨zs,hzs⟩:∃ zs,d.z=zs:=⟨_,rfl⟩;have hn64:=hd.1.2.1;rw [hzs] at hfo hfl hzl hn64 E hv ⊢;obtain ⟨n,hn⟩:∃ n,zs.length=n:=⟨_,rfl⟩;have HTS:=Lib.hid (tornT_succ zs);have htl:=tornT_len zs;rw [hn] at hfo hfl hn64 E hv ⊢;have HFL:=Lib.hid hfl;have HN:=Lib.hid hn;have HZL:=Lib.hid hzl;clear hfl hn hd hzs hzl;obtain ⟨q0,f0,t0⟩:=E.rules m0;have HTL:=Lib.hid htl;clear htl;have hfs:∀ j,(hj:j<zs.length)→(foundL zs)[j]?=some (scanL zs[j].d):=fun j hj=>by unfold foundL;rw [List.getElem?_map,List.getElem?_eq_getElem hj];rfl
 have HFS:=Lib.hid hfs;clear hfs;generalize foundL zs=fs at hfo HFL HFS;go_enter Tryz.func48,Tryz.ntmps48
 go_wp2_with fail;refine (hfo _ (E.get m0)).mono ?_;rintro x w2 ⟨Ao,co,rfl,hfd,hb2⟩;replace E:=(E.step hb2).give Stable.list hfd;clear hfo hv hb2 q0 f0 t0;have hE:=E.below.size;go_wp2_with fail;go_loopw [3,4,5,9] (fun x3 x4 x5 x9 wr=>∃ (j t:Nat) (Al:Option Addr) (cl:Nat),x9=.int .i64 j∧j≤n∧x3=.slice Al t cl∧Hid ((tornT zs j).length=t)∧t≤j∧wr.ownsRow w2.heap.size 3 1 (.slice Al t cl) t ((tornT zs j).map I64)∧Below w2.heap.size w2 wr∧(∃ y,x4=y)∧∃ y,x5=y) (fun _ _ _ x9 _=>n-(intOf x9).toNat)
 case atStart=>exact ⟨0,0,none,0,rfl,Nat.zero_le _,rfl,Lib.hid rfl,Nat.le_refl _,World.ownsRow_nil _ _ _ _,Below.refl _ _,⟨_,rfl⟩,_,rfl⟩
 case round=>
  obtain ⟨j,t,Al,cl,rfl,hj,rfl,htt,htj,hown,hb,⟨y4,rfl⟩,y,rfl⟩:=hrel;have F:=E.step hb;by_cases hlt:j<n
  case neg=>
   obtain rfl:j=n:=by omega
   clear E;go_wp2;go_ret;exact ⟨Al,cl,by rw [htt.out];rfl,by rw [htt.out];exact own_base hown hE,F.below⟩
  have hlt':j<zs.length:=by rw [HN.out];exact hlt
  have HT:=Lib.hid (HTS.out j);rw [show zs.getD j z0=zs[j] from by rw [List.getD_eq_getElem?_getD,List.getElem?_eq_getElem hlt'];rfl] at HT
  obtain ⟨adz,B,cB,rfl,hadb,_,hB,c0,c1,c2⟩:=IsL.zone_at (F.get m1) (List.getElem?_eq_getElem hlt');obtain ⟨ad,A1,c1',A2,c2',rfl,hK,hl,-,k0,k1,k2,k3,k4,k5,k6⟩:=IsL.fd_at (F.get m0) (HFS.out j hlt');have hln:=HZL.out _ (List.getElem_mem hlt');generalize zs[j]=z at hl HT hB c0 c1 c2 k0 k1 k2 k3 k4 k5 k6 hln;generalize scanL z.d=f at hl HT k0 k1 k2 k3 k4 k5 k6;have HZ:∀ cs t,ZoneAt (wr.alloc (.cells cs t)) (adz.add (j*3)) z B cB:=fun cs t=>ZoneAt.step ⟨c0,c1,c2⟩ ((Below.refl _ _).alloc (Nat.le_refl _) _)
  unfold ZoneAt at HZ;generalize z.d.length=zn at HT hln c2 HZ;obtain ⟨q0,f0,t0⟩:=F.rules m0;have j1:(j:Int)<(n:Int):=by omega
  have j0:(0:Int)≤(j:Int):=by omega
  have hs:=hb.size;by_cases hu:f.used<zn
  case neg=>
   rw [if_neg hu,List.append_nil] at HT;have hu2:¬(f.used:Int)<(zn:Int):=by omega
   go_upto_region 5 with fail;have G:=F.push 148 #[.bool f.head,.int .i64 f.h.host,.int .i64 f.h.epoch,.int .i64 f.h.seq,.slice A1 f.l.length c1',.slice A2 f.at_.length c2',.int .i64 f.used];obtain ⟨z0,z1,z2⟩:=HZ #[.bool f.head,.int .i64 f.h.host,.int .i64 f.h.epoch,.int .i64 f.h.seq,.slice A1 f.l.length c1',.slice A2 f.at_.length c2',.int .i64 f.used] 148;have hbx:=hb.alloc hs (.cells #[.bool f.head,.int .i64 f.h.host,.int .i64 f.h.epoch,.int .i64 f.h.seq,.slice A1 f.l.length c1',.slice A2 f.at_.length c2',.int .i64 f.used] 148);replace hown:=hown.alloc (.cells #[.bool f.head,.int .i64 f.h.host,.int .i64 f.h.epoch,.int .i64 f.h.seq,.slice A1 f.l.length c1',.slice A2 f.at_.length c2',.int .i64 f.used] 148);clear q0 f0 t0 k0 k1 k2 k3 k4 k5 k6 c0 c1 c2 hb F E HZ;generalize wr.alloc (.cells #[.bool f.head,.int .i64 f.h.host,.int .i64 f.h.epoch,.int .i64 f.h.seq,.slice A1 f.l.length c1',.slice A2 f.at_.length c2',.int .i64 f.used] 148)=w1 at G z0 z1 z2 hbx hown ⊢;obtain ⟨q0,f0,t0⟩:=G.rules m0;obtain ⟨q1,f1,t1⟩:=G.rules m1;go_quiet (fail);go_wp2;go_roundw
   case rel=>exact ⟨j+1,t,Al,cl,by go_num,by omega,rfl,Lib.hid (by rw [HT.out];exact htt.out),by omega,by rw [HT.out];exact own_below hown (below_drewN (Below.refl w1.heap.size w1) _) (Nat.le_refl _),below_drewN hbx _,⟨_,rfl⟩,_,rfl⟩
   case measure=>simp [intOf];omega
  rw [if_pos hu] at HT;have hu2:(f.used:Int)<(zn:Int):=by omega
  go_upto_region 5 with fail;have G:=F.push 148 #[.bool f.head,.int .i64 f.h.host,.int .i64 f.h.epoch,.int .i64 f.h.seq,.slice A1 f.l.length c1',.slice A2 f.at_.length c2',.int .i64 f.used];obtain ⟨z0,z1,z2⟩:=HZ #[.bool f.head,.int .i64 f.h.host,.int .i64 f.h.epoch,.int .i64 f.h.seq,.slice A1 f.l.length c1',.slice A2 f.at_.length c2',.int .i64 f.used] 148;have hbx:=hb.alloc hs (.cells #[.bool f.head,.int .i64 f.h.host,.int .i64 f.h.epoch,.int .i64 f.h.seq,.slice A1 f.l.length c1',.slice A2 f.at_.length c2',.int .i64 f.used] 148);replace hown:=hown.alloc (.cells #[.bool f.head,.int .i64 f.h.host,.int .i64 f.h.epoch,.int .i64 f.h.seq,.slice A1 f.l.length c1',.slice A2 f.at_.length c2',.int .i64 f.used] 148);clear q0 f0 t0 k0 k1 k2 k3 k4 k5 k6 c0 c1 c2 hb F E HZ;generalize wr.alloc (.cells #[.bool f.head,.int .i64 f.h.host,.int .i64 f.h.epoch,.int .i64 f.h.seq,.slice A1 f.l.length c1',.slice A2 f.at_.length c2',.int .i64 f.used] 148)=w1 at G z0 z1 z2 hbx hown ⊢;obtain ⟨q0,f0,t0⟩:=G.rules m0;obtain ⟨q1,f1,t1⟩:=G.rules m1;go_quiet (fail);go_wp2_with (at_builtin;(refine wpList_appN rfl _ _ _ rfl w2.heap.size 3 i0 _ 1 8 Tryz.underlying23 hi hz0 hz1 hz2 rfl (by omega) rfl ((own_below hown (below_drewN (Below.refl w1.heap.size w1) _) (Nat.le_refl _)).alloc _) rfl (Reads.new (xs:=[I64 j]) (n:=1) rfl rfl rfl) (by intro u hu;simp only [List.mem_cons,List.not_mem_nil,or_false] at hu;subst hu;rfl) (by simp only [maxLen];omega) (by omega) (by rw [World.size_alloc];exact Nat.le_succ_of_le (below_drewN hbx _).size) ?_;intro A8 c8 w6 own8 hg8))
  go_roundw
  case rel=>exact ⟨j+1,t+1,A8,c8,by go_num,by omega,rfl,Lib.hid (by rw [HT.out,List.length_append,htt.out];rfl),by omega,by rw [HT.out,List.map_append];exact own8,((below_drewN hbx _).alloc (below_drewN hbx _).size _).trans (hg8.below.mono (Nat.le_refl _)),⟨_,rfl⟩,_,rfl⟩
  case measure=>simp [intOf];omega
end Go.Proofs.YtfhpolidjmbjoaaGreat
