/- Part 30 of the proof: RdrP RdrC RdrI RdrF RdrE -/
import Derived.Deep.RegionHeldLaw
import Derived.Test.YtebgikflpgcnlaaGreatDoorP11
import Derived.Test.YtebgikflpgcnlaaGreatDoorP29
namespace Go.Proofs.YtebgikflpgcnlaaGreatDoor
set_option linter.unusedVariables false
set_option linter.unusedSimpArgs false
set_option maxRecDepth 100000
set_option maxHeartbeats 4000000
open Go.RowKit Tryz
def K6 (Inv:World→AQ→Prop) (B b:Nat) (w:World) (res:Option AQ) (e:Ending) (w':World):Prop:=
 (res=none∧e= .panicked R4∧Below w.heap.size w w')∨ ∃m',res=some m'∧e= .returned (.tuple #[])∧Keep (fun k=>k<B∧k≠b) w w'∧Inv w' m'
theorem Mf {b:Nat} {w w3 w4:World} {v:Value} (hb:Below w.heap.size w w3) (hg:w3.grownBy w4 v.ownBlock) (p:Nat) (u:Value):Keep (fun k=>k≠b∧v.ownBlock≠some k) w (w4.setCell ⟨b,p,none⟩ u):=
 ((Keep.Am hb |>.mono (K':=fun k=>(k≠b∧v.ownBlock≠some k)∧k<w.heap.size) (fun k h=>h.2) |>.ER (fun k hk h=>⟨h,hk⟩)).grown hg (fun k hk h=>h.2 hk)).setCell (p:=⟨b,p,none⟩) (fun h=>h.1 rfl) u
section
variable {B b:Nat} {w w3 w4:World} {col:Nat→Nat} {v1 v2 v3 v6 v7 v8:Value} {m:AQ} {st ln:Nat}
theorem QZ.ADw {A:Option Addr} {c:Nat} {cells:List Value} (h:QZ B b w col (.slice A m.types.length c) v2 v3 v6 v7 v8 m st ln) (hP:Nn Mr 51 B (fun k=>col k=1) w A m.types.length c cells m.types)
 (hb:Below w.heap.size w w3) {A':Option Addr} {c' lo hi:Nat} {cs:List Value} {x:Dl} (hr:Mr.R w3 lo hi cs x) (hlo:w.heap.size≤lo) (hhi:hi≤w3.heap.size)
 (ho:w4.ownsRow B 51 Mr.z (.slice A' (m.types.length+1) c') (m.types.length+1) (cells++cs)) (hg:w3.grownBy w4 (Value.slice A m.types.length c).ownBlock) (hat:(Value.slice A' (m.types.length+1) c').ownBlock=(Value.slice A m.types.length c).ownBlock∨(Value.slice A' (m.types.length+1) c').ownBlock=some w3.heap.size):
 Keep (fun k=>k<B∧k≠b) w (w4.setCell ⟨b,0,none⟩ (.slice A' (m.types.length+1) c'))∧Ti B b (w4.setCell ⟨b,0,none⟩ (.slice A' (m.types.length+1) c')) {m with types:=m.types++ [x]} st ln:=by
 have hK:=Mf (b:=b) hb hg 0 (.slice A' (m.types.length+1) c')
 have hB:=h.top
 have hown:=hP.lt
 have hlow:=h.low
 refine⟨hK.mono fun k hk=>⟨hk.2,fun e=>by have:=(hown k e).1;omega⟩,?_⟩
 have hsn:=hP.snoc hb hB hr hlo hhi ho hg hat (S':=fun k=>K5 w col 1 k=1) (fun k hk e=>Ao hk e) (fun k hk=>OE hk)
 have h5:Keep (fun k=>k≠b) w4 (w4.setCell ⟨b,0,none⟩ (.slice A' (m.types.length+1) c')):=(Keep.refl _ w4).setCell (p:=⟨b,0,none⟩) (fun e=>e rfl) _
 have hl:(m.types++ [x]).length=m.types.length+1:=by rw [List.length_append];rfl
 have Zh:PD Mr 51 B (fun k=>K5 w col 1 k=1) (w4.setCell ⟨b,0,none⟩ (.slice A' (m.types.length+1) c')) (.slice A' (m.types.length+1) c') (m.types++ [x]):=
  ⟨A',c',_,by rw [hl],by rw [hl];exact hsn.keep h5 (fun k hk _ _=>by omega) (fun k _ e=>e)⟩
 have Zi:=h.six.put1 hK (fun k hBk hk h1 _=>⟨by omega,fun e=>h1 (hP.at_ k e)⟩) Zh
 have hbl:AV w4 b 104 [.slice A m.types.length c,v2,v3,.int .i64 m.first,.int .i64 m.most,v6,v7,v8,.int .i64 st,.int .i64 ln]:=(hg.block b (Nat.lt_of_lt_of_le h.blk.lt hb.size) (fun e=>by have:=(hown b e.symm).1;omega)).trans (h.blk.below hb h.blk.lt)
 exact⟨_,_,v2,v3,v6,v7,v8,hbl.set 0 _,Zi,hlow,Nat.le_trans hB hK.size,h.first,h.most⟩
theorem QZ.ADx {A:Option Addr} {c:Nat} {cells:List Value} (h:QZ B b w col v1 (.slice A m.hosts.length c) v3 v6 v7 v8 m st ln) (hP:Nn Rd.i64 3 B (fun k=>col k=2) w A m.hosts.length c cells m.hosts)
 (hb:Below w.heap.size w w3) {A':Option Addr} {c' lo hi:Nat} {cs:List Value} {x:Int} (hr:Rd.i64.R w3 lo hi cs x) (hlo:w.heap.size≤lo) (hhi:hi≤w3.heap.size)
 (ho:w4.ownsRow B 3 Rd.i64.z (.slice A' (m.hosts.length+1) c') (m.hosts.length+1) (cells++cs)) (hg:w3.grownBy w4 (Value.slice A m.hosts.length c).ownBlock) (hat:(Value.slice A' (m.hosts.length+1) c').ownBlock=(Value.slice A m.hosts.length c).ownBlock∨(Value.slice A' (m.hosts.length+1) c').ownBlock=some w3.heap.size):
 Keep (fun k=>k<B∧k≠b) w (w4.setCell ⟨b,1,none⟩ (.slice A' (m.hosts.length+1) c'))∧Ti B b (w4.setCell ⟨b,1,none⟩ (.slice A' (m.hosts.length+1) c')) {m with hosts:=m.hosts++ [x]} st ln:=by
 have hK:=Mf (b:=b) hb hg 1 (.slice A' (m.hosts.length+1) c')
 have hB:=h.top
 have hown:=hP.lt
 have hlow:=h.low
 refine⟨hK.mono fun k hk=>⟨hk.2,fun e=>by have:=(hown k e).1;omega⟩,?_⟩
 have hsn:=hP.snoc hb hB hr hlo hhi ho hg hat (S':=fun k=>K5 w col 2 k=2) (fun k hk e=>Ao hk e) (fun k hk=>OE hk)
 have h5:Keep (fun k=>k≠b) w4 (w4.setCell ⟨b,1,none⟩ (.slice A' (m.hosts.length+1) c')):=(Keep.refl _ w4).setCell (p:=⟨b,1,none⟩) (fun e=>e rfl) _
 have hl:(m.hosts++ [x]).length=m.hosts.length+1:=by rw [List.length_append];rfl
 have Zh:PD Rd.i64 3 B (fun k=>K5 w col 2 k=2) (w4.setCell ⟨b,1,none⟩ (.slice A' (m.hosts.length+1) c')) (.slice A' (m.hosts.length+1) c') (m.hosts++ [x]):=
  ⟨A',c',_,by rw [hl],by rw [hl];exact hsn.keep h5 (fun k hk _ _=>by omega) (fun k _ e=>e)⟩
 have Zi:=h.six.put2 hK (fun k hBk hk h1 _=>⟨by omega,fun e=>h1 (hP.at_ k e)⟩) Zh
 have hbl:AV w4 b 104 [v1,.slice A m.hosts.length c,v3,.int .i64 m.first,.int .i64 m.most,v6,v7,v8,.int .i64 st,.int .i64 ln]:=(hg.block b (Nat.lt_of_lt_of_le h.blk.lt hb.size) (fun e=>by have:=(hown b e.symm).1;omega)).trans (h.blk.below hb h.blk.lt)
 exact⟨_,v1,_,v3,v6,v7,v8,hbl.set 1 _,Zi,hlow,Nat.le_trans hB hK.size,h.first,h.most⟩
theorem QZ.j3 {A:Option Addr} {c:Nat} {cells:List Value} (h:QZ B b w col v1 v2 (.slice A m.globs.length c) v6 v7 v8 m st ln) (hP:Nn JG 82 B (fun k=>col k=3) w A m.globs.length c cells m.globs)
 (hb:Below w.heap.size w w3) {A':Option Addr} {c' lo hi:Nat} {cs:List Value} {x:Ep} (hr:JG.R w3 lo hi cs x) (hlo:w.heap.size≤lo) (hhi:hi≤w3.heap.size)
 (ho:w4.ownsRow B 82 JG.z (.slice A' (m.globs.length+1) c') (m.globs.length+1) (cells++cs)) (hg:w3.grownBy w4 (Value.slice A m.globs.length c).ownBlock) (hat:(Value.slice A' (m.globs.length+1) c').ownBlock=(Value.slice A m.globs.length c).ownBlock∨(Value.slice A' (m.globs.length+1) c').ownBlock=some w3.heap.size):
 Keep (fun k=>k<B∧k≠b) w (w4.setCell ⟨b,2,none⟩ (.slice A' (m.globs.length+1) c'))∧Ti B b (w4.setCell ⟨b,2,none⟩ (.slice A' (m.globs.length+1) c')) {m with globs:=m.globs++ [x]} st ln:=by
 have hK:=Mf (b:=b) hb hg 2 (.slice A' (m.globs.length+1) c')
 have hB:=h.top
 have hown:=hP.lt
 have hlow:=h.low
 refine⟨hK.mono fun k hk=>⟨hk.2,fun e=>by have:=(hown k e).1;omega⟩,?_⟩
 have hsn:=hP.snoc hb hB hr hlo hhi ho hg hat (S':=fun k=>K5 w col 3 k=3) (fun k hk e=>Ao hk e) (fun k hk=>OE hk)
 have h5:Keep (fun k=>k≠b) w4 (w4.setCell ⟨b,2,none⟩ (.slice A' (m.globs.length+1) c')):=(Keep.refl _ w4).setCell (p:=⟨b,2,none⟩) (fun e=>e rfl) _
 have hl:(m.globs++ [x]).length=m.globs.length+1:=by rw [List.length_append];rfl
 have Zh:PD JG 82 B (fun k=>K5 w col 3 k=3) (w4.setCell ⟨b,2,none⟩ (.slice A' (m.globs.length+1) c')) (.slice A' (m.globs.length+1) c') (m.globs++ [x]):=
  ⟨A',c',_,by rw [hl],by rw [hl];exact hsn.keep h5 (fun k hk _ _=>by omega) (fun k _ e=>e)⟩
 have Zi:=h.six.put3 hK (fun k hBk hk h1 _=>⟨by omega,fun e=>h1 (hP.at_ k e)⟩) Zh
 have hbl:AV w4 b 104 [v1,v2,.slice A m.globs.length c,.int .i64 m.first,.int .i64 m.most,v6,v7,v8,.int .i64 st,.int .i64 ln]:=(hg.block b (Nat.lt_of_lt_of_le h.blk.lt hb.size) (fun e=>by have:=(hown b e.symm).1;omega)).trans (h.blk.below hb h.blk.lt)
 exact⟨_,v1,v2,_,v6,v7,v8,hbl.set 2 _,Zi,hlow,Nat.le_trans hB hK.size,h.first,h.most⟩
theorem QZ.ADy {A:Option Addr} {c:Nat} {cells:List Value} (h:QZ B b w col v1 v2 v3 v6 (.slice A m.dat.length c) v8 m st ln) (hP:Nn Kz 59 B (fun k=>col k=7) w A m.dat.length c cells m.dat)
 (hb:Below w.heap.size w w3) {A':Option Addr} {c' lo hi:Nat} {cs:List Value} {x:EZ} (hr:Kz.R w3 lo hi cs x) (hlo:w.heap.size≤lo) (hhi:hi≤w3.heap.size)
 (ho:w4.ownsRow B 59 Kz.z (.slice A' (m.dat.length+1) c') (m.dat.length+1) (cells++cs)) (hg:w3.grownBy w4 (Value.slice A m.dat.length c).ownBlock) (hat:(Value.slice A' (m.dat.length+1) c').ownBlock=(Value.slice A m.dat.length c).ownBlock∨(Value.slice A' (m.dat.length+1) c').ownBlock=some w3.heap.size):
 Keep (fun k=>k<B∧k≠b) w (w4.setCell ⟨b,6,none⟩ (.slice A' (m.dat.length+1) c'))∧Ti B b (w4.setCell ⟨b,6,none⟩ (.slice A' (m.dat.length+1) c')) {m with dat:=m.dat++ [x]} st ln:=by
 have hK:=Mf (b:=b) hb hg 6 (.slice A' (m.dat.length+1) c')
 have hB:=h.top
 have hown:=hP.lt
 have hlow:=h.low
 refine⟨hK.mono fun k hk=>⟨hk.2,fun e=>by have:=(hown k e).1;omega⟩,?_⟩
 have hsn:=hP.snoc hb hB hr hlo hhi ho hg hat (S':=fun k=>K5 w col 7 k=7) (fun k hk e=>Ao hk e) (fun k hk=>OE hk)
 have h5:Keep (fun k=>k≠b) w4 (w4.setCell ⟨b,6,none⟩ (.slice A' (m.dat.length+1) c')):=(Keep.refl _ w4).setCell (p:=⟨b,6,none⟩) (fun e=>e rfl) _
 have hl:(m.dat++ [x]).length=m.dat.length+1:=by rw [List.length_append];rfl
 have Zh:PD Kz 59 B (fun k=>K5 w col 7 k=7) (w4.setCell ⟨b,6,none⟩ (.slice A' (m.dat.length+1) c')) (.slice A' (m.dat.length+1) c') (m.dat++ [x]):=
  ⟨A',c',_,by rw [hl],by rw [hl];exact hsn.keep h5 (fun k hk _ _=>by omega) (fun k _ e=>e)⟩
 have Zi:=h.six.put7 hK (fun k hBk hk h1 _=>⟨by omega,fun e=>h1 (hP.at_ k e)⟩) Zh
 have hbl:AV w4 b 104 [v1,v2,v3,.int .i64 m.first,.int .i64 m.most,v6,.slice A m.dat.length c,v8,.int .i64 st,.int .i64 ln]:=(hg.block b (Nat.lt_of_lt_of_le h.blk.lt hb.size) (fun e=>by have:=(hown b e.symm).1;omega)).trans (h.blk.below hb h.blk.lt)
 exact⟨_,v1,v2,v3,v6,_,v8,hbl.set 6 _,Zi,hlow,Nat.le_trans hB hK.size,h.first,h.most⟩
theorem QZ.ADz {A:Option Addr} {c:Nat} {cells:List Value} (h:QZ B b w col v1 v2 v3 v6 v7 (.slice A m.AO.length c) m st ln) (hP:Nn M_ 61 B (fun k=>col k=8) w A m.AO.length c cells m.AO)
 (hb:Below w.heap.size w w3) {A':Option Addr} {c' lo hi:Nat} {cs:List Value} {x:LA} (hr:M_.R w3 lo hi cs x) (hlo:w.heap.size≤lo) (hhi:hi≤w3.heap.size)
 (ho:w4.ownsRow B 61 M_.z (.slice A' (m.AO.length+1) c') (m.AO.length+1) (cells++cs)) (hg:w3.grownBy w4 (Value.slice A m.AO.length c).ownBlock) (hat:(Value.slice A' (m.AO.length+1) c').ownBlock=(Value.slice A m.AO.length c).ownBlock∨(Value.slice A' (m.AO.length+1) c').ownBlock=some w3.heap.size):
 Keep (fun k=>k<B∧k≠b) w (w4.setCell ⟨b,7,none⟩ (.slice A' (m.AO.length+1) c'))∧Ti B b (w4.setCell ⟨b,7,none⟩ (.slice A' (m.AO.length+1) c')) {m with AO:=m.AO++ [x]} st ln:=by
 have hK:=Mf (b:=b) hb hg 7 (.slice A' (m.AO.length+1) c')
 have hB:=h.top
 have hown:=hP.lt
 have hlow:=h.low
 refine⟨hK.mono fun k hk=>⟨hk.2,fun e=>by have:=(hown k e).1;omega⟩,?_⟩
 have hsn:=hP.snoc hb hB hr hlo hhi ho hg hat (S':=fun k=>K5 w col 8 k=8) (fun k hk e=>Ao hk e) (fun k hk=>OE hk)
 have h5:Keep (fun k=>k≠b) w4 (w4.setCell ⟨b,7,none⟩ (.slice A' (m.AO.length+1) c')):=(Keep.refl _ w4).setCell (p:=⟨b,7,none⟩) (fun e=>e rfl) _
 have hl:(m.AO++ [x]).length=m.AO.length+1:=by rw [List.length_append];rfl
 have Zh:PD M_ 61 B (fun k=>K5 w col 8 k=8) (w4.setCell ⟨b,7,none⟩ (.slice A' (m.AO.length+1) c')) (.slice A' (m.AO.length+1) c') (m.AO++ [x]):=
  ⟨A',c',_,by rw [hl],by rw [hl];exact hsn.keep h5 (fun k hk _ _=>by omega) (fun k _ e=>e)⟩
 have Zi:=h.six.put8 hK (fun k hBk hk h1 _=>⟨by omega,fun e=>h1 (hP.at_ k e)⟩) Zh
 have hbl:AV w4 b 104 [v1,v2,v3,.int .i64 m.first,.int .i64 m.most,v6,v7,.slice A m.AO.length c,.int .i64 st,.int .i64 ln]:=(hg.block b (Nat.lt_of_lt_of_le h.blk.lt hb.size) (fun e=>by have:=(hown b e.symm).1;omega)).trans (h.blk.below hb h.blk.lt)
 exact⟨_,v1,v2,v3,v6,v7,_,hbl.set 7 _,Zi,hlow,Nat.le_trans hB hK.size,h.first,h.most⟩
end
theorem bn:(prog.info? 3).map (fun i=>(i.zero,i.size,i.bytes))=some (some (.int .i64 0),1,8):=by kernel_rfl
theorem sU:(prog.info? 61).map (fun i=>(i.zero,i.size,i.bytes))=some (some (.agg #[.string ⟨#[]⟩,.int .i64 0]),2,24):=by kernel_rfl
theorem QZ.old {B b:Nat} {w w3 w4:World} {col:Nat→Nat} {v1 v2 v3 v6 v7 v8:Value} {m:AQ} {st ln:Nat} (h:QZ B b w col v1 v2 v3 v6 v7 v8 m st ln) (hb:Below w.heap.size w w3) {v:Value} (hg:w3.grownBy w4 v.ownBlock) (hv: ∀g,v.ownBlock=some g→B≤g):
 AV w4 b 104 [v1,v2,v3,.int .i64 m.first,.int .i64 m.most,v6,v7,v8,.int .i64 st,.int .i64 ln]:=
 (hg.block b (Nat.lt_of_lt_of_le h.blk.lt hb.size) (fun e=>by have:=hv b e.symm;have:=h.low;omega)).trans (h.blk.below hb h.blk.lt)
structure XK (B b A hi:Nat) (w:World) (col:Nat→Nat) (v1 v2 v3 v6 v7 v8:Value) (m:AQ) (st ln:Nat) (ws:List ByteArray):Prop where
 rd:QZ B b w col v1 v2 v3 v6 v7 v8 m st ln
 wd:En w A ws
 env:Dt hi w
 hhi:hi≤b
 lens:Lens m 4194304
 ne:A≠b
theorem len2 {ws:List ByteArray} (h:ws.length=2): ∃a b,ws= [a,b]:=by
 rcases ws with _ | ⟨a,_ | ⟨b,_ | ⟨c,t⟩⟩⟩<;>simp_all
theorem yR {ws:List ByteArray} (h:ws.length=3): ∃a b c,ws= [a,b,c]:=by
 rcases ws with _ | ⟨a,_ | ⟨b,_ | ⟨c,_ | ⟨d,t⟩⟩⟩⟩<;>simp_all
theorem len4 {ws:List ByteArray} (h:ws.length=4): ∃a b c d,ws= [a,b,c,d]:=by
 rcases ws with _ | ⟨a,_ | ⟨b,_ | ⟨c,_ | ⟨d,_ | ⟨e,t⟩⟩⟩⟩⟩<;>simp_all
section
variable {B b A hi:Nat} {w:World} {col:Nat→Nat} {v1 v2 v3 v6 v7 v8:Value} {m:AQ} {st ln:Nat} {ws:List ByteArray}
theorem Mg {p k:Nat} (h:(p,k)∈ [(1,1),(3,2),(4,4),(5,3),(6,3),(7,3),(8,3)]) (h0:ws≠ []) (hk:ws.length≠k):Ar p m ws.tail=none:=by
 simp only [List.mem_cons,Prod.mk.injEq,List.not_mem_nil,or_false] at h
 rcases h with⟨rfl,rfl⟩ | ⟨rfl,rfl⟩ | ⟨rfl,rfl⟩ | ⟨rfl,rfl⟩ | ⟨rfl,rfl⟩ | ⟨rfl,rfl⟩ | ⟨rfl,rfl⟩<;>
  rcases ws with _ | ⟨x0,_ | ⟨x1,_ | ⟨x2,_ | ⟨x3,_ | ⟨x4,t⟩⟩⟩⟩⟩<;>simp_all [Ar]
theorem Zk (h0:ws≠ []) (hk:ws.length≠1) (Inv:World→AQ→Prop):
 Calls prog 88 #[.pointer (some ⟨b,0,none⟩),.slice (some ⟨A,0,none⟩) ws.length ws.length] w (K6 Inv B b w (Ar 1 m ws.tail)):=by
 have HN:=AA (Mg (m:=m) (p:=1) (k:=1) (by decide) h0 hk)
 have HK:Hid (decide (ws.length=1)=false):=AA (decide_eq_false hk)
 clear h0 hk
 go_enter func88,ntmps88
 go_wp2_with fail
 refine(C_ (some ⟨A,0,none⟩) ws.length ws.length 1 w).mono ?_
 rintro e w1 ⟨rfl,⟨h1,rfl⟩ | ⟨h1,rfl⟩⟩
 ·rw [HK.out] at h1;cases h1
 go_wp2_with fail
 exact⟨rfl,.inl ⟨HN.out,rfl,Below.refl _ _⟩⟩
theorem sV (h:XK B b A hi w col v1 v2 v3 v6 v7 v8 m st ln ws) (h0:ws≠ []):
 Calls prog 88 #[.pointer (some ⟨b,0,none⟩),.slice (some ⟨A,0,none⟩) ws.length ws.length] w (K6 (fun W m'=>Ti B b W m' st ln) B b w (Ar 1 m ws.tail)):=by
 by_cases hk:ws.length=1
 case neg=>exact Zk h0 hk _
 obtain⟨x0,rfl⟩:=List.length_eq_one_iff.1 hk
 have HR:=AA h.rd
 clear h h0 hk
 show Calls _ _ #[_,.slice _ 1 1] _ _
 go_enter func88,ntmps88
 go_wp2_with fail
 refine(C_ (some ⟨A,0,none⟩) 1 1 1 w).mono ?_
 rintro e w1 ⟨rfl,I4⟩
 rcases I4 with⟨_,rfl⟩ | ⟨hf,_⟩
 case inr=>exact absurd hf (by decide)
 go_wp2_with fail
 go_end0
 exact .inr ⟨m,rfl,rfl,Keep.refl _ _,⟨_,_,_,_,_,_,_,HR.out⟩⟩
end
section
variable {B b A hi:Nat} {w:World} {col:Nat→Nat} {v1 v2 v3 v6 v7 v8:Value} {m:AQ} {st ln:Nat} {ws:List ByteArray}
theorem QZ.mem (h:QZ B b w col v1 v2 v3 v6 v7 v8 m st ln) {x y:Int} (hx:Rd.Ej x) (hy:Rd.Ej y) {w4 w5:World} (hb:Below w.heap.size w w4) (hK:Keep (fun k=>k≠b) w4 w5)
 (hB:AV w5 b 104 [v1,v2,v3,.int .i64 x,.int .i64 y,v6,v7,v8,.int .i64 st,.int .i64 ln]):
 Keep (fun k=>k<B∧k≠b) w w5∧Ti B b w5 {m with first:=x,most:=y} st ln:=by
 have hlow:=h.low
 have hK2:Keep (fun k=>k≠b) w w5:=((Keep.Am hb).ER (fun k hk _=>hk)).trans hK
 refine⟨hK2.mono fun k hk=>hk.2,⟨K5 w col 0,v1,v2,v3,v6,v7,v8,hB,?_,h.low,Nat.le_trans h.top hK2.size,hx,hy⟩⟩
 have:=h.six.keep hK2 (fun k hk _ _=>by omega) (K5 w col 0) (fun k hk _=>Ao hk rfl)
 exact⟨this.p1,this.p2,this.p3,this.p6,this.p7,this.p8⟩
theorem cell_far (W:World) (u:Value) {p q:Addr} (h:p.block≠q.block):(W.setCell q u).cell? p=W.cell? p:=by
 have:=Below.heap_setCell W q u p.block h
 simp [World.cell?,this]
theorem cZ {x0 x1 x2:ByteArray} (h:XK B b A hi w col v1 v2 v3 v6 v7 v8 m st ln [x0,x1,x2]):
 Calls prog 92 #[.pointer (some ⟨b,0,none⟩),.slice (some ⟨A,0,none⟩) 3 3] w (K6 (fun W m'=>Ti B b W m' st ln) B b w (Ar 5 m [x1,x2])):=by
 have hw1:w.cell? ⟨A,1,none⟩=some (.string x1):=h.wd.at_ 1 _ rfl
 have hw2:w.cell? ⟨A,2,none⟩=some (.string x2):=h.wd.at_ 2 _ rfl
 have Om:=h.wd.lt
 have hbl:=h.rd.blk.lt
 have hhi:=h.hhi
 have Uk:=AA (h.wd.sz x1 (by simp));have RG:=AA (h.wd.sz x2 (by simp));have HE:=AA h.env;have HR:=AA h.rd;have Zo:=AA h.ne
 have ABy:Hid (CK x1=none→Ar 5 m [x1,x2]=none):=AA fun h=>by show(CK x1).bind _=none;rw [h];rfl
 have tH:Hid (CK x2=none→Ar 5 m [x1,x2]=none):=AA fun h=>by show(CK x1).bind (fun x=>(CK x2).map fun y=>({m with first:=x,most:=y}:AQ))=none;rw [h];cases CK x1<;>rfl
 have mH:Hid (∀a c,CK x1=some a→CK x2=some c→Ar 5 m [x1,x2]=some {m with first:=a,most:=c}):=AA fun a c h1 h2=>by show(CK x1).bind (fun x=>(CK x2).map fun y=>({m with first:=x,most:=y}:AQ))=_;rw [h1,h2];rfl
 clear h
 go_enter func92,ntmps92
 go_wp2_with fail
 refine(C_ (some ⟨A,0,none⟩) 3 3 3 w).mono ?_
 rintro e w1 ⟨rfl,I4⟩
 rcases I4 with⟨_,rfl⟩ | ⟨hf,_⟩
 case inr=>exact absurd hf (by decide)
 go_wp2_with fail
 refine wp_region_held_drew (S:=fun W=>W.cell? ⟨A,1,none⟩=some (.string x1)∧W.cell? ⟨A,2,none⟩=some (.string x2)) (by kernel_rfl) ⟨hw1,hw2⟩ (fun hHeld=> ?_)
 refine AB (i:=0) (v:= ?_) rfl (by kernel_rfl) (fun _ _ _ h=>h) (by intro w hSw;(try dsimp only at hSw);go_simp;try with_reducible rfl) hHeld ?_
 refine AB (i:=1) (v:= ?_) rfl (by kernel_rfl) (fun _ _ _ h=>h) (by intro w hSw;(try dsimp only at hSw);go_simp;try with_reducible rfl) hHeld ?_
 refine AB (i:=2) (v:= ?_) rfl (by kernel_rfl) (fun _ _ _ h=>h) (by intro w hSw;(try dsimp only at hSw);go_simp;try with_reducible rfl) hHeld ?_
 refine AB (i:=3) (v:= ?_) rfl (by kernel_rfl) (fun _ _ _ h=>h) (by intro w hSw;(try dsimp only at hSw);go_simp;try with_reducible rfl) hHeld ?_
 refine AB (i:=4) (v:= ?_) rfl (by kernel_rfl) (fun _ _ _ h=>h) (by intro w hSw;(try dsimp only at hSw);go_simp;try with_reducible rfl) hHeld ?_
 refine AB (i:=6) (v:= ?_) rfl (by kernel_rfl) (fun _ _ _ h=>h) (by intro w hSw;(try dsimp only at hSw);go_simp;try with_reducible rfl) hHeld ?_
 refine AB (i:=7) (v:= ?_) rfl (by kernel_rfl) (fun _ _ _ h=>h) (by intro w hSw;(try dsimp only at hSw);go_simp;try with_reducible rfl) hHeld ?_
 refine AB (i:=8) (v:= ?_) rfl (by kernel_rfl) (fun _ _ _ h=>h) (by intro w hSw;(try dsimp only at hSw);go_simp;try with_reducible rfl) hHeld ?_
 refine wpAnyH_ready (rs:= [5]) (by kernel_rfl) (by simp) ?_
 refine AllReadyH.cons rfl (fun K hK=> ?_) AllReadyH.nil
 ·go_simp
  go_at_call 142
  refine(Dq x1 (by have:=Uk.out;omega) _ (HE.out.up (below_drewN (Below.refl _ _) 1) (by omega)) (by simp;omega)).mono ?_
  rintro e w2 ⟨hb2,⟨h0,rfl⟩ | ⟨n1,hn1,hm1,rfl⟩⟩
  ·go_wp2_with fail
   exact⟨rfl,.inl ⟨ABy.out h0,rfl,Af hb2⟩⟩
  have hS2:=Af hb2
  have hsz2:=hS2.size
  refine hK.out _ _ ⟨(hS2.cell (p:=⟨A,1,none⟩) Om).trans hw1,(hS2.cell (p:=⟨A,2,none⟩) Om).trans hw2⟩ (fun AX=> ?_)
  clear hK K
  refine wpAnyH_ready (rs:= [9]) (by kernel_rfl) (by simp) ?_
  refine AllReadyH.cons rfl (fun K hK=> ?_) AllReadyH.nil
  go_simp
  go_at_call 142
  refine(Dq x2 (by have:=RG.out;omega) w2 (HE.out.up hS2 (by omega)) (by omega)).mono ?_
  rintro e w3 ⟨hb3,⟨h0,rfl⟩ | ⟨n2,hn2,hm2,rfl⟩⟩
  ·go_wp2_with fail
   exact⟨rfl,.inl ⟨tH.out h0,rfl,hS2.trans (hb3.mono hsz2)⟩⟩
  have j5:=hS2.trans (hb3.mono hsz2)
  refine hK.out _ _ ⟨(j5.cell (p:=⟨A,1,none⟩) Om).trans hw1,(j5.cell (p:=⟨A,2,none⟩) Om).trans hw2⟩ (fun LQ=> ?_)
  clear hK K
  have hY:=mH.out n1 n2 hn1 hn2
  have hbk:=HR.out.blk.below j5 hbl
  have HY:=AA hY;have Y2:=AA hm1;have VF:=AA hm2;have HS3:=AA j5;have HBK:=AA hbk
  have c3:=hbk.q 3 rfl
  have c4:=hbk.q 4 rfl
  have f3:=hbk.frozen 3
  have f4:=hbk.frozen 4
  clear hY hm1 hm2 hb2 hb3 hn1 hn2 hS2 j5 hbk
  clear hHeld AX
  refine AB (i:=10) (v:= ?_) rfl (by kernel_rfl) (fun _ _ _ h=>h) (by intro w hSw;(try dsimp only at hSw);go_simp;try with_reducible rfl) LQ ?_
  refine AB (i:=11) (v:= ?_) rfl (by kernel_rfl) (fun _ _ _ h=>h) (by intro w hSw;(try dsimp only at hSw);go_simp;try with_reducible rfl) LQ ?_
  refine AB (i:=12) (v:= ?_) rfl (by kernel_rfl) (fun _ _ _ h=>h) (by intro w hSw;(try dsimp only at hSw);go_simp;try with_reducible rfl) LQ ?_
  refine wpAnyH_ready (rs:= [13]) (by kernel_rfl) (by simp) ?_
  refine AllReadyH.cons rfl (fun K hK=> ?_) AllReadyH.nil
  go_simp
  have hB5:=(HBK.out.set 3 (.int .i64 n1))
  have c4':=hB5.q 4 rfl
  have f4':=hB5.frozen 4
  have mJ:=Zo.out
  refine hK.out _ _ ⟨(cell_far _ _ (p:=⟨A,1,none⟩) (q:=⟨b,3,none⟩) mJ).trans ((HS3.out.cell (p:=⟨A,1,none⟩) Om).trans hw1),(cell_far _ _ (p:=⟨A,2,none⟩) (q:=⟨b,3,none⟩) mJ).trans ((HS3.out.cell (p:=⟨A,2,none⟩) Om).trans hw2)⟩ (fun gX=> ?_)
  clear hK K
  refine AB (i:=14) (v:= ?_) rfl (by kernel_rfl) (fun _ _ _ h=>h) (by intro w hSw;(try dsimp only at hSw);go_simp;try with_reducible rfl) gX ?_
  refine AB (i:=15) (v:= ?_) rfl (by kernel_rfl) (fun _ _ _ h=>h) (by intro w hSw;(try dsimp only at hSw);go_simp;try with_reducible rfl) gX ?_
  refine AB (i:=16) (v:= ?_) rfl (by kernel_rfl) (fun _ _ _ h=>h) (by intro w hSw;(try dsimp only at hSw);go_simp;try with_reducible rfl) gX ?_
  refine wpAnyH_ready (rs:= [17]) (by kernel_rfl) (by simp) ?_
  refine AllReadyH.cons rfl (fun K hK=> ?_) AllReadyH.nil
  go_simp
  refine hK.out _ _ ⟨(cell_far _ _ (p:=⟨A,1,none⟩) (q:=⟨b,4,none⟩) mJ).trans ((cell_far _ _ (p:=⟨A,1,none⟩) (q:=⟨b,3,none⟩) mJ).trans ((HS3.out.cell (p:=⟨A,1,none⟩) Om).trans hw1)),(cell_far _ _ (p:=⟨A,2,none⟩) (q:=⟨b,4,none⟩) mJ).trans ((cell_far _ _ (p:=⟨A,2,none⟩) (q:=⟨b,3,none⟩) mJ).trans ((HS3.out.cell (p:=⟨A,2,none⟩) Om).trans hw2))⟩ (fun tF=> ?_)
  clear hK K
  refine wpAnyH_done (by kernel_rfl) ?_ _
  go_simp
  have hfin:=HR.out.mem Y2.out VF.out HS3.out (((Keep.refl _ w3).setCell (p:=⟨b,3,none⟩) (fun e=>e rfl) (.int .i64 n1)).setCell (p:=⟨b,4,none⟩) (fun e=>e rfl) (.int .i64 n2)) (hB5.set 4 _)
  go_end0
  exact .inr ⟨_,HY.out,rfl,hfin⟩
theorem YT (h0:ws≠ []) (hk:ws.length≠3) (Inv:World→AQ→Prop):
 Calls prog 92 #[.pointer (some ⟨b,0,none⟩),.slice (some ⟨A,0,none⟩) ws.length ws.length] w (K6 Inv B b w (Ar 5 m ws.tail)):=by
 have HN:=AA (Mg (m:=m) (p:=5) (k:=3) (by decide) h0 hk)
 have HK:Hid (decide (ws.length=3)=false):=AA (decide_eq_false hk)
 clear h0 hk
 go_enter func92,ntmps92
 go_wp2_with fail
 refine(C_ (some ⟨A,0,none⟩) ws.length ws.length 3 w).mono ?_
 rintro e w1 ⟨rfl,⟨h1,rfl⟩ | ⟨h1,rfl⟩⟩
 ·rw [HK.out] at h1;cases h1
 go_wp2_with fail
 exact⟨rfl,.inl ⟨HN.out,rfl,Below.refl _ _⟩⟩
theorem mK (h:XK B b A hi w col v1 v2 v3 v6 v7 v8 m st ln ws) (h0:ws≠ []):
 Calls prog 92 #[.pointer (some ⟨b,0,none⟩),.slice (some ⟨A,0,none⟩) ws.length ws.length] w (K6 (fun W m'=>Ti B b W m' st ln) B b w (Ar 5 m ws.tail)):=by
 by_cases hk:ws.length=3
 case neg=>exact YT h0 hk _
 obtain⟨x0,x1,x2,rfl⟩:=yR hk
 exact cZ h
end
section
variable {B b A hi:Nat} {w:World} {col:Nat→Nat} {v1 v2 v3 v6 v7 v8:Value} {m:AQ} {st ln:Nat} {ws:List ByteArray}
theorem sZ (s:ByteArray):(Gy s).1.size≤s.size∧(Gy s).2.1.size≤s.size:=by
 have h1:=Sy s
 have h2:=Mc (Pz s)
 have h3:=Mc (P_ s)
 unfold Gy
 split
 ·exact⟨by simp only;omega,by simp only;omega⟩
 ·exact⟨Nat.zero_le _,Nat.zero_le _⟩
theorem mE:(prog.info? 51).map (fun i=>(i.zero,i.size,i.bytes))=some (some (.agg #[.string ⟨#[]⟩,.string ⟨#[]⟩]),2,32):=by kernel_rfl
theorem gV {x0 x1:ByteArray} {t:List ByteArray} (h:XK B b A hi w col v1 v2 v3 v6 v7 v8 m st ln (x0::x1::t)):
 Calls prog 89 #[.pointer (some ⟨b,0,none⟩),.slice (some ⟨A,0,none⟩) (t.length+2) (t.length+2)] w (K6 (fun W m'=>Ti B b W m' st ln) B b w (Ar 2 m (x1::t))):=by
 obtain⟨A2,c2,Ip,e2,hP⟩:=h.rd.six.p1
 subst e2
 obtain⟨i0,hi0,hz,hs',hby⟩:=info_parts mE
 have hc1:=h.rd.blk.q 0 rfl
 have hbl:=h.rd.blk.lt
 have Om:=h.wd.lt
 have hhi:=h.hhi
 have hlow:=h.rd.low
 have htop:=h.rd.top
 have hq:=h.lens.types
 have htl:t.length≤4194304:=by have:=Qu (x0::x1::t);have:=h.wd.tot;simp at*;omega
 have HW:=AA h.wd;have HE:=AA h.env;have HR:=AA h.rd;have HP:=AA hP
 clear h hP
 go_enter func89,ntmps89
 go_wp2_with fail
 refine(strings_Join A 1 (t.length+1) (x1::t) ⟨#[32]⟩ w (fun j x hx=>by have:=HW.out.at_ (j+1) x hx;rw [Nat.add_comm 1 j];exact this) Om (by simp;omega) (by simp) (by have h1:=XJ (x1::t);have h2:=HW.out.tot;have h3:Io (x0::x1::t)=x0.size+1+Io (x1::t):=rfl;show(Lib.join _ [32]).length≤_;omega)).mono ?_
 rintro e w1 ⟨rfl,hb1⟩
 have hjs:(JO (x1::t)).size≤1048577:=by
  have h1:=XJ (x1::t);have h2:=HW.out.tot;have h3:Io (x0::x1::t)=x0.size+1+Io (x1::t):=rfl
  show(List.toArray _).size≤_
  rw [List.size_toArray]
  omega
 obtain⟨mx,hmx⟩:=(HE.out.up hb1 (by omega)).mx w1 (Below.refl _ _)
 have HB1:=AA hb1
 have hsz1:=hb1.size
 have HC:=AA (Rm (JO (x1::t)) (by omega) mx w1 hmx)
 have HJ:=AA hjs
 clear hb1 hmx hjs
 go_wp2_with fail
 refine HC.out.mono ?_
 clear HC
 rintro e w2 ⟨hb2,rfl⟩
 have hle:=sZ (JO (x1::t))
 have OY:=AA hle
 have HRD:Hid (Ar 2 m (x1::t)=if(Gy (JO (x1::t))).2.2=0 then some {m with types:=m.types++ [⟨(Gy (JO (x1::t))).1,(Gy (JO (x1::t))).2.1⟩]} else none):=AA rfl
 have HB2:=AA (HB1.out.trans (hb2.mono HB1.out.size))
 clear hb2 hle
 generalize (Gy (JO (x1::t))).1=rp at*
 generalize (Gy (JO (x1::t))).2.1=rr at*
 generalize (Gy (JO (x1::t))).2.2=re at*
 go_wp2_with fail
 generalize hw3:w2.alloc (.cells #[.string rp,.string rr] 51)=w3
 have hsz2:=HB2.out.size
 have AD2:Below w2.heap.size w2 w3:=by rw [←hw3];exact(Below.refl _ _).alloc (Nat.le_refl _) _
 have hx:AV w3 w2.heap.size 51 [.string rp,.string rr]:=by rw [←hw3];exact AV.new w2 _ [.string rp,.string rr]
 have hlt3:w2.heap.size<w3.heap.size:=by rw [←hw3];simp
 have HB3:=AA (HB2.out.trans (AD2.mono hsz2))
 have g1:=(HB3.out.cell (p:=⟨b,0,none⟩) (show b<w.heap.size by omega)).trans hc1
 have gx0:=hx.q 0 rfl
 have gx1:=hx.q 1 rfl
 clear hw3 AD2 hx
 refine(TG _ _).mono ?_
 rintro e w4 ⟨rfl,⟨h0,rfl⟩ | ⟨h0,rfl⟩⟩
 case inr=>
  have HN:Hid (Ar 2 m (x1::t)=none):=AA (by rw [HRD.out,if_neg (by rw [beq_eq_false_iff_ne] at h0;omega)])
  clear h0
  go_wp2_with fail
  exact⟨rfl,.inl ⟨HN.out,rfl,HB3.out⟩⟩
 have HN:Hid (Ar 2 m (x1::t)=some {m with types:=m.types++ [⟨rp,rr⟩]}):=AA (by rw [HRD.out,if_pos (by rw [beq_iff_eq] at h0;omega)])
 have hrw:(re:Int)=0:=by rw [beq_iff_eq] at h0;exact h0
 clear h0 HRD
 generalize (re:Int)=rz at*
 subst hrw
 have hb5:Below w3.heap.size w3 (w3.alloc (.cells #[.string rp,.string rr] 51)).drew:=((Below.refl _ _).alloc (Nat.le_refl _) _).drew
 have TI:=HB3.out.size
 have I8:=AA (HB3.out.trans (hb5.mono TI))
 have k1:=(hb5.cell (p:=⟨b,0,none⟩) (show b<w3.heap.size by omega)).trans g1
 have kx0:=(hb5.cell (p:=⟨w2.heap.size,0,none⟩) hlt3).trans gx0
 have kx1:=(hb5.cell (p:=⟨w2.heap.size,1,none⟩) hlt3).trans gx1
 have fK:=AA (CJ HP.out.own I8.out)
 have Kq:Hid (Row (w3.alloc (.cells #[.string rp,.string rr] 51)).drew (w3.heap.size+1) (some ⟨w3.heap.size,0,none⟩) [.string rp,.string rr]):=AA (Dx w3 [.string rp,.string rr] 51)
 clear hb5
 go_wp2_with fail
 go_region_law (refine ES rfl (.tmp 21) (.tmp 23) 22 rfl B 51 i0 _ 2 32 underlying22 hi0 hz hs' hby rfl (by omega) _ m.types.length Ip rfl fK.out (w3.heap.size+1) _ 1 1 [.string rp,.string rr] rfl rfl Kq.out (by intro u hu;simp at hu;rcases hu with rfl | rfl<;>rfl) (by unfold maxLen;omega) (by omega) (by simp;omega) ?_;intro A4 c4 w4 h2 h3 h4;have Ia:=HR.out.old I8.out h3 (fun g e=>(HP.out.lt g e).1);have Y1:=Ia.frozen 0;have hc4:=Ia.cell 0;have H2:=AA h2;have H3:=AA h3;have H4:=AA h4;clear h2 h3 h4 Ia)
 all_goals
  go_end0
  refine .inr ⟨_,HN.out,rfl,HR.out.ADw HP.out I8.out (lo:=w.heap.size) (hi:=w.heap.size) (x:=⟨rp,rr⟩) (Qk.2 ⟨rfl,(show rp.size≤140737488351232 by have:=OY.out.1;have:=HJ.out;omega),(show rr.size≤140737488351232 by have:=OY.out.2;have:=HJ.out;omega)⟩) (Nat.le_refl _) (by simp;omega) H2.out H3.out H4.out⟩
theorem XL:(Gy (JO [])).2.2=15:=by decide+kernel
theorem gW {x0:ByteArray} (h:XK B b A hi w col v1 v2 v3 v6 v7 v8 m st ln [x0]) (Inv:World→AQ→Prop):
 Calls prog 89 #[.pointer (some ⟨b,0,none⟩),.slice (some ⟨A,0,none⟩) 1 1] w (K6 Inv B b w (Ar 2 m [])):=by
 have HRD:Hid (Ar 2 m []=none):=AA (by unfold Ar;exact if_neg (by rw [XL];decide))
 have hhi:=h.hhi
 have hbl:=h.rd.blk.lt
 obtain⟨mx,hmx⟩:=h.env.mx w (Below.refl _ _)
 have HC:=AA (Rm (JO []) (by decide) mx w hmx)
 clear h hmx
 go_enter func89,ntmps89
 go_wp2_with fail
 refine(strings_Join_none _ _ _ w).mono ?_
 rintro e w1 ⟨rfl,rfl⟩
 go_wp2_with fail
 refine HC.out.mono ?_
 clear HC
 rintro e w2 ⟨hb2,rfl⟩
 rw [XL]
 generalize (Gy (JO [])).1=rp at*
 generalize (Gy (JO [])).2.1=rr at*
 have HB:=AA hb2
 clear hb2
 go_wp2_with fail
 refine(AZ _).mono ?_
 rintro e w4 ⟨rfl,rfl⟩
 go_wp2_with fail
 exact⟨rfl,.inl ⟨HRD.out,rfl,HB.out.alloc HB.out.size _⟩⟩
theorem sj (h:XK B b A hi w col v1 v2 v3 v6 v7 v8 m st ln ws) (h0:ws≠ []):
 Calls prog 89 #[.pointer (some ⟨b,0,none⟩),.slice (some ⟨A,0,none⟩) ws.length ws.length] w (K6 (fun W m'=>Ti B b W m' st ln) B b w (Ar 2 m ws.tail)):=by
 rcases ws with _ | ⟨x0,_ | ⟨x1,t⟩⟩
 ·exact absurd rfl h0
 ·exact gW h _
 ·exact gV h
end
section
variable {B b A hi:Nat} {w:World} {col:Nat→Nat} {v1 v2 v3 v6 v7 v8:Value} {m:AQ} {st ln:Nat} {ws:List ByteArray}
theorem YP (h0:ws≠ []) (hk:ws.length≠3) (Inv:World→AQ→Prop):
 Calls prog 95 #[.pointer (some ⟨b,0,none⟩),.slice (some ⟨A,0,none⟩) ws.length ws.length] w (K6 Inv B b w (Ar 8 m ws.tail)):=by
 have HN:=AA (Mg (m:=m) (p:=8) (k:=3) (by decide) h0 hk)
 have HK:Hid (decide (ws.length=3)=false):=AA (decide_eq_false hk)
 clear h0 hk
 go_enter func95,ntmps95
 go_wp2_with fail
 refine(C_ (some ⟨A,0,none⟩) ws.length ws.length 3 w).mono ?_
 rintro e w1 ⟨rfl,⟨h1,rfl⟩ | ⟨h1,rfl⟩⟩
 ·rw [HK.out] at h1;cases h1
 go_wp2_with fail
 exact⟨rfl,.inl ⟨HN.out,rfl,Below.refl _ _⟩⟩
theorem Zl {x0 x1 x2:ByteArray} (h:XK B b A hi w col v1 v2 v3 v6 v7 v8 m st ln [x0,x1,x2]) (hn:CK x2=none) (Inv:World→AQ→Prop):
 Calls prog 95 #[.pointer (some ⟨b,0,none⟩),.slice (some ⟨A,0,none⟩) 3 3] w (K6 Inv B b w (Ar 8 m [x1,x2])):=by
 obtain⟨A2,c2,Ip,e2,hP⟩:=h.rd.six.p8
 subst e2
 have hc1:=h.rd.blk.q 7 rfl
 have hw1:w.cell? ⟨A,1,none⟩=some (.string x1):=h.wd.at_ 1 _ rfl
 have hw2:w.cell? ⟨A,2,none⟩=some (.string x2):=h.wd.at_ 2 _ rfl
 have hbl:=h.rd.blk.lt
 have Om:=h.wd.lt
 have hhi:=h.hhi
 have HX:=AA (h.wd.sz x2 (by simp));have HN:=AA hn;have HE:=AA h.env
 have HRN:Hid (Ar 8 m [x1,x2]=none):=AA (by show(CK x2).map _=none;rw [hn];rfl)
 clear h hn hP
 go_enter func95,ntmps95
 go_wp2_with fail
 refine(C_ (some ⟨A,0,none⟩) 3 3 3 w).mono ?_
 rintro e w1 ⟨rfl,I4⟩
 rcases I4 with⟨_,rfl⟩ | ⟨hf,_⟩
 case inr=>exact absurd hf (by decide)
 go_wp2_with fail
 refine wp_region_held_drew (S:=fun W=>W.cell? ⟨b,7,none⟩=some (.slice A2 m.AO.length c2)∧W.cell? ⟨A,1,none⟩=some (.string x1)∧W.cell? ⟨A,2,none⟩=some (.string x2)) (by kernel_rfl) ⟨hc1,hw1,hw2⟩ (fun hHeld=> ?_)
 refine AB (i:=0) (v:= ?_) rfl (by kernel_rfl) (fun _ _ _ h=>h) (by intro w hSw;(try dsimp only at hSw);go_simp;try with_reducible rfl) hHeld ?_
 refine AB (i:=1) (v:= ?_) rfl (by kernel_rfl) (fun _ _ _ h=>h) (by intro w hSw;(try dsimp only at hSw);go_simp;try with_reducible rfl) hHeld ?_
 refine AB (i:=2) (v:= ?_) rfl (by kernel_rfl) (fun _ _ _ h=>h) (by intro w hSw;(try dsimp only at hSw);go_simp;try with_reducible rfl) hHeld ?_
 refine AB (i:=3) (v:= ?_) rfl (by kernel_rfl) (fun _ _ _ h=>h) (by intro w hSw;(try dsimp only at hSw);go_simp;try with_reducible rfl) hHeld ?_
 refine AB (i:=4) (v:= ?_) rfl (by kernel_rfl) (fun _ _ _ h=>h) (by intro w hSw;(try dsimp only at hSw);go_simp;try with_reducible rfl) hHeld ?_
 refine AB (i:=5) (v:= ?_) rfl (by kernel_rfl) (fun _ _ _ h=>h) (by intro w hSw;(try dsimp only at hSw);go_simp;try with_reducible rfl) hHeld ?_
 refine AB (i:=6) (v:= ?_) rfl (by kernel_rfl) (fun _ _ _ h=>h) (by intro w hSw;(try dsimp only at hSw);go_simp;try with_reducible rfl) hHeld ?_
 refine AB (i:=7) (v:= ?_) rfl (by kernel_rfl) (fun _ _ _ h=>h) (by intro w hSw;(try dsimp only at hSw);go_simp;try with_reducible rfl) hHeld ?_
 refine AB (i:=8) (v:= ?_) rfl (by kernel_rfl) (fun _ _ _ h=>h) (by intro w hSw;(try dsimp only at hSw);go_simp;try with_reducible rfl) hHeld ?_
 refine AB (i:=9) (v:= ?_) rfl (by kernel_rfl) (fun _ _ _ h=>h) (by intro w hSw;(try dsimp only at hSw);go_simp;try with_reducible rfl) hHeld ?_
 refine AB (i:=10) (v:= ?_) rfl (by kernel_rfl) (fun _ _ _ h=>h) (by intro w hSw;(try dsimp only at hSw);go_simp;try with_reducible rfl) hHeld ?_
 refine AB (i:=11) (v:= ?_) rfl (by kernel_rfl) (fun _ _ _ h=>h) (by intro w hSw;(try dsimp only at hSw);go_simp;try with_reducible rfl) hHeld ?_
 refine wpAnyH_ready (rs:= [12]) (by kernel_rfl) (by simp) ?_
 refine AllReadyH.cons rfl (fun K hK=> ?_) AllReadyH.nil
 go_simp
 go_at_call 142
 refine(Dq x2 (by have:=HX.out;omega) _ (HE.out.up (below_drewN (Below.refl _ _) 1) (by omega)) (by first | (simp;omega) | omega)).mono ?_
 rintro e w2 ⟨hb2,⟨h0,rfl⟩ | ⟨k,hk,_,rfl⟩⟩
 ·go_wp2_with fail
  exact⟨rfl,.inl ⟨HRN.out,rfl,Af hb2⟩⟩
 ·exact absurd (hk.symm.trans HN.out) (by simp)
theorem Zm {x0 x1 x2:ByteArray} {n:Int} (h:XK B b A hi w col v1 v2 v3 v6 v7 v8 m st ln [x0,x1,x2]) (hn:CK x2=some n):
 Calls prog 95 #[.pointer (some ⟨b,0,none⟩),.slice (some ⟨A,0,none⟩) 3 3] w fun e w'=>e= .returned (.tuple #[])∧Keep (fun k=>k<B∧k≠b) w w'∧Ti B b w' {m with AO:=m.AO++ [⟨x1,n⟩]} st ln:=by
 obtain⟨A2,c2,Ip,e2,hP⟩:=h.rd.six.p8
 subst e2
 obtain⟨i0,hi0,hz,hs',hby⟩:=info_parts sU
 have hc1:=h.rd.blk.q 7 rfl
 have hw1:w.cell? ⟨A,1,none⟩=some (.string x1):=h.wd.at_ 1 _ rfl
 have hw2:w.cell? ⟨A,2,none⟩=some (.string x2):=h.wd.at_ 2 _ rfl
 have hbl:=h.rd.blk.lt
 have Om:=h.wd.lt
 have hhi:=h.hhi
 have hlow:=h.rd.low
 have htop:=h.rd.top
 have hq:=h.lens.AO
 have HX:=AA (h.wd.sz x2 (by simp));have Uk:=AA (h.wd.sz x1 (by simp));have HN:=AA hn;have HE:=AA h.env;have HR:=AA h.rd;have HP:=AA hP
 clear h hn hP
 go_enter func95,ntmps95
 go_wp2_with fail
 refine(C_ (some ⟨A,0,none⟩) 3 3 3 w).mono ?_
 rintro e w1 ⟨rfl,I4⟩
 rcases I4 with⟨_,rfl⟩ | ⟨hf,_⟩
 case inr=>exact absurd hf (by decide)
 go_wp2_with fail
 go_region_law
  (first
   | (go_simp;go_at_call 142;refine(Dq x2 (by have:=HX.out;omega) w.drew (HE.out.up (below_drewN (Below.refl _ _) 1) (by omega)) (by first | (simp;omega) | omega)).mono ?_;rintro e w2 ⟨hb2,⟨h0,rfl⟩ | ⟨k,hk,b_,rfl⟩⟩;exact absurd (h0.symm.trans HN.out) (by simp);obtain rfl:k=n:=Option.some.inj (hk.symm.trans HN.out);have hS:=Af hb2;have HS:=AA hS;have g1:=(hS.cell (p:=⟨b,7,none⟩) (show b<w.heap.size by omega)).trans hc1;have gw1:=(hS.cell (p:=⟨A,1,none⟩) (show A<w.heap.size by omega)).trans hw1;have hsz2:w.heap.size≤w2.heap.size:=hS.size;have g1a:=(((Below.refl w2.heap.size w2).alloc (Nat.le_refl _) (.cells #[.string x1,.int .i64 k] 61)).cell (p:=⟨b,7,none⟩) (show b<w2.heap.size by omega)).trans g1;have Kq:=AA (Dx w2 [.string x1,.int .i64 k] 61);have sW:=AA b_;have qC:=AA (CJ HP.out.own hS);clear hb2 hk b_ hS)
   | (refine ES rfl (.tmp 11) (.tmp 20) 27 rfl B 61 i0 _ 2 24 underlying27 hi0 hz hs' hby rfl (by omega) _ m.AO.length Ip rfl (qC.out.alloc _) (w2.heap.size+1) _ 1 1 [.string x1,.int .i64 k] rfl rfl Kq.out (by intro u hu;simp at hu;rcases hu with rfl | rfl<;>rfl) (by unfold maxLen;omega) (by omega) (by simp;omega) ?_;intro A4 c4 w4 h2 h3 h4;have Ia:=HR.out.old (HS.out.alloc HS.out.size _) h3 (fun g e=>(HP.out.lt g e).1);have Y1:=Ia.frozen 7;have hc4:=Ia.cell 7;have H2:=AA h2;have H3:=AA h3;have H4:=AA h4;clear h2 h3 h4 Ia))
 all_goals
  go_end0
  exact⟨rfl,HR.out.ADz HP.out (HS.out.alloc HS.out.size _) (lo:=w.heap.size) (hi:=w.heap.size) (Wj.2 ⟨rfl,(show x1.size≤140737488351232 by have:=Uk.out;omega),sW.out⟩) (Nat.le_refl _) (by simp;omega) H2.out H3.out H4.out⟩
theorem mD (h:XK B b A hi w col v1 v2 v3 v6 v7 v8 m st ln ws) (h0:ws≠ []):
 Calls prog 95 #[.pointer (some ⟨b,0,none⟩),.slice (some ⟨A,0,none⟩) ws.length ws.length] w (K6 (fun W m'=>Ti B b W m' st ln) B b w (Ar 8 m ws.tail)):=by
 by_cases hk:ws.length=3
 case neg=>exact YP h0 hk _
 obtain⟨x0,x1,x2,rfl⟩:=yR hk
 cases hn:CK x2 with
 | none=>exact Zl h hn _
 | some n=>
  refine(Zm h hn).mono ?_
  rintro e w' ⟨rfl,hk,hr⟩
  exact .inr ⟨_,by show(CK x2).map _=_;rw [hn];rfl,rfl,hk,hr⟩
end
end Go.Proofs.YtebgikflpgcnlaaGreatDoor
