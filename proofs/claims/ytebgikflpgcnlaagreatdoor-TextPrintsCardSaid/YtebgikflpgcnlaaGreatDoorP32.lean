/- Part 32 of the proof: RdrJ RdrD RdrQ FamO OpsF OpsG -/
import Derived.Test.YtebgikflpgcnlaaGreatDoorP09
import Derived.Test.YtebgikflpgcnlaaGreatDoorP30
namespace Go.Proofs.YtebgikflpgcnlaaGreatDoor
set_option linter.unusedVariables false
set_option linter.unusedSimpArgs false
set_option maxRecDepth 100000
set_option maxHeartbeats 4000000
open Go.RowKit Tryz
theorem mM:(prog.info? 59).map (fun i=>(i.zero,i.size,i.bytes))=some (some (.agg #[.int .i64 0,.slice none 0 0]),2,32):=by kernel_rfl
def tK (x:ByteArray) (n:Int) (w:World) (h:Nat) (i:Value) (wr:World):Prop:=
 ∃(k j:Nat) (A:Option Addr) (c:Nat) (bs:List UInt8),j=2*k∧j≤x.size∧i= .int .i64 (j:Nat)∧Below w.heap.size w wr∧AV wr h 59 [.int .i64 n,.slice A k c]∧wr.ownsRow (h+1) 5 1 (.slice A k c) k (bs.map bv)∧bs.length=k∧K3 (x.data.toList.take (2*k))=some bs
theorem AB0 {a b:Nat} (ha:a<16) (hb:b<16):bits BinOp.or IntKind.i64 ((a:Int)*16) (b:Int)%256=((UInt8.ofNat (16*a+b)).toNat:Int):=by
 have h: ∀x y:Fin 16,bits BinOp.or IntKind.i64 ((x.1:Int)*16) (y.1:Int)%256=((UInt8.ofNat (16*x.1+y.1)).toNat:Int):=by decide+kernel
 exact h ⟨a,ha⟩ ⟨b,hb⟩
def yU (c:UInt8):Int:=match Mw c with
 | some v=>(v:Int)
 | none=> -1
theorem Y3 (c:UInt8) (W:World):Calls prog 143 #[.string ⟨#[48,49,50,51,52,53,54,55,56,57,97,98,99,100,101,102]⟩,.int .u8 (c.toNat:Int)] W fun e w'=>W=w'∧e= .returned (.int .i64 (yU c)):=by
 refine(strings_IndexByte ABz (c.toNat:Int) W).mono ?_
 rintro e w' ⟨rfl,rfl⟩
 refine⟨rfl,?_⟩
 have h:((c.toNat:Int)).toNat.toUInt8=c:=by simp
 rw [h,yT]
 rfl
section
variable {B b A hi:Nat} {w:World} {col:Nat→Nat} {v1 v2 v3 v6 v7 v8:Value} {m:AQ} {st ln:Nat} {ws:List ByteArray}
theorem mO {x0 x1 x2:ByteArray} (h:XK B b A hi w col v1 v2 v3 v6 v7 v8 m st ln [x0,x1,x2]):
 Calls prog 94 #[.pointer (some ⟨b,0,none⟩),.slice (some ⟨A,0,none⟩) 3 3] w (K6 (fun W m'=>Ti B b W m' st ln) B b w (Ar 7 m [x1,x2])):=by
 obtain⟨A2,c2,Ip,e2,hP⟩:=h.rd.six.p7
 subst e2
 have hc1:=h.rd.blk.q 6 rfl
 have hw1:w.cell? ⟨A,1,none⟩=some (.string x1):=h.wd.at_ 1 _ rfl
 have hw2:w.cell? ⟨A,2,none⟩=some (.string x2):=h.wd.at_ 2 _ rfl
 have Om:=h.wd.lt
 have hbl:=h.rd.blk.lt
 have hhi:=h.hhi
 have hq:=h.lens.dat
 have hx2:=h.wd.sz x2 (by simp)
 have Uk:=AA (h.wd.sz x1 (by simp));have HE:=AA h.env;have HR:=AA h.rd;have HP:=AA hP
 have hlow:=h.rd.low
 have htop:=h.rd.top
 have ABy:Hid (CK x1=none→Ar 7 m [x1,x2]=none):=AA fun h=>by show(CK x1).bind _=none;rw [h];rfl
 have tH:Hid (K3 x2.data.toList=none→Ar 7 m [x1,x2]=none):=AA fun h=>by show(CK x1).bind (fun n=>(K3 x2.data.toList).map fun b=>({m with dat:=m.dat++ [⟨n,b⟩]}:AQ))=none;rw [h];cases CK x1<;>rfl
 have mH:Hid (∀a l,CK x1=some a→K3 x2.data.toList=some l→Ar 7 m [x1,x2]=some {m with dat:=m.dat++ [⟨a,l⟩]}):=AA fun a l h1 h2=>by show(CK x1).bind (fun n=>(K3 x2.data.toList).map fun b=>({m with dat:=m.dat++ [⟨n,b⟩]}:AQ))=_;rw [h1,h2];rfl
 clear h hP
 go_enter func94,ntmps94
 go_wp2_with fail
 refine(C_ (some ⟨A,0,none⟩) 3 3 3 w).mono ?_
 rintro e w1 ⟨rfl,I4⟩
 rcases I4 with⟨_,rfl⟩ | ⟨hf,_⟩
 case inr=>exact absurd hf (by decide)
 go_wp2_with fail
 refine(Dq x1 (by have:=Uk.out;omega) w (HE.out) (by omega)).mono ?_
 rintro e w2 ⟨hb2,⟨h0,rfl⟩ | ⟨n,hn,hm,rfl⟩⟩
 ·go_wp2_with fail
  exact⟨rfl,.inl ⟨ABy.out h0,rfl,hb2⟩⟩
 have HN:=AA hn;have HM:=AA hm
 have HB2:=AA hb2
 have AD6:=(hb2.cell (p:=⟨A,2,none⟩) Om).trans hw2
 have hsz2:=hb2.size
 have AD7: ∀o:Obj,(w2.alloc o).cell? ⟨A,2,none⟩=some (.string x2):=fun o=>(((Below.refl w2.heap.size w2).alloc (Nat.le_refl _) o).cell (p:=⟨A,2,none⟩) (show A<w2.heap.size by omega)).trans AD6
 have hw24:=AD7 (.cells #[.int .i64 n,.slice none 0 0] 59)
 clear hn hm hb2
 go_wp2_with fail
 generalize hw3:w2.alloc _=w3 at*
 have hb3:Below w.heap.size w w3:=by rw [←hw3];exact HB2.out.alloc hsz2 _
 have hx3:AV w3 w2.heap.size 59 [.int .i64 n,.slice none 0 0]:=by rw [←hw3];exact AV.new w2 _ [.int .i64 n,.slice none 0 0]
 obtain⟨h,hh⟩: ∃h,h=w2.heap.size:=⟨_,rfl⟩
 have dA:w.heap.size≤h:=by omega
 rw [←hh] at hx3⊢
 clear hw3 AD7 AD6 hh HB2 hsz2
 refine(TG _ _).mono ?_
 rintro e w4 ⟨rfl,⟨h0,rfl⟩ | ⟨h0,rfl⟩⟩
 case inr=>
  have hodd:x2.data.toList.length%2=1:=by
   rw [beq_eq_false_iff_ne] at h0
   have:x2.data.toList.length=x2.size:=by simp
   omega
  have HN2:=AA (tH.out (cu _ hodd))
  clear h0 hodd
  go_wp2_with fail
  exact⟨rfl,.inl ⟨HN2.out,rfl,hb3⟩⟩
 have hev:x2.size%2=0:=by rw [beq_iff_eq] at h0;omega
 have fM:=AA hev
 have hBt:(x2.size%2==0)=true:=by rw [hev];rfl
 clear h0 hev
 have hrel:tK x2 n w h (.int .i64 0) w3:=⟨0,0,none,0,[],rfl,Nat.zero_le _,rfl,hb3,hx3,⟨by simp,.inl ⟨rfl,rfl⟩⟩,rfl,rfl⟩
 have yV:=AA hrel
 have HHL:=AA dA
 clear hrel hb3 hx3
 go_wp2_with fail
 obtain⟨wo,hwo⟩: ∃wo:World,wo=w:=⟨_,rfl⟩
 go_loopw [5,6,7] (fun i _ _ wr=>tK x2 n w h i wr) (fun i _ _ _=>x2.size-(intOf i).toNat)
 case atStart=>exact yV.out
 case round=>
  clear hw24 hBt
  obtain⟨k,j,A1,c1,bs,hj,hjx,rfl,hbel,hblk,hown,AD8,hhx⟩:=hrel
  have HJ:=AA hj;have HJX:=AA hjx;have tL:=AA hbel;have YU:=AA hblk;have HOWN:=AA hown;have AB1:=AA AD8;have HHX:=AA hhx
  have r2:=(hbel.cell (p:=⟨A,2,none⟩) Om).trans hw2
  have hhl2:=HHL.out
  have hj0:(0:Int)≤j:=by omega
  have hjs:j≤1048576:=by omega
  clear hj hbel hblk hown AD8 hhx
  by_cases hlt:j<x2.size
  ·have d1:decide ((j:Int)<(x2.size:Int))=true:=decide_eq_true (by omega)
   have hlt1:j+1<x2.size:=by have:=fM.out;have:=HJ.out;omega
   have HWR:Hid (IntKind.i64.wrap ((j:Int)+1)=((j+1:Nat):Int)):=AA (by simp [IntKind.wrap,IntKind.bits,IntKind.signed];omega)
   go_upto_region 6 with fail
   refine wp_region_held_drew (S:=fun W=>W.cell? ⟨A,2,none⟩=some (.string x2)) (by kernel_rfl) r2 (fun hHeld=> ?_)
   refine AB (i:=0) (v:= ?_) rfl (by kernel_rfl) (fun _ _ _ h=>h) (by intro w hSw;(try dsimp only at hSw);go_simp;try with_reducible rfl) hHeld ?_
   refine AB (i:=1) (v:= ?_) rfl (by kernel_rfl) (fun _ _ _ h=>h) (by intro w hSw;(try dsimp only at hSw);go_simp;try with_reducible rfl) hHeld ?_
   refine AB (i:=2) (v:= ?_) rfl (by kernel_rfl) (fun _ _ _ h=>h) (by intro w hSw;(try dsimp only at hSw);go_simp;try with_reducible rfl) hHeld ?_
   refine AB (i:=3) (v:= ?_) rfl (by kernel_rfl) (fun _ _ _ h=>h) (by intro w hSw;(try dsimp only at hSw);go_simp;try with_reducible rfl) hHeld ?_
   refine AB (i:=4) (v:= ?_) rfl (by kernel_rfl) (fun _ _ _ h=>h) (by intro w hSw;(try dsimp only at hSw);go_simp;try with_reducible rfl) hHeld ?_
   refine AB (i:=6) (v:= ?_) rfl (by kernel_rfl) (fun _ _ _ h=>h) (by intro w hSw;(try dsimp only at hSw);go_simp;try with_reducible rfl) hHeld ?_
   refine AB (i:=7) (v:= ?_) rfl (by kernel_rfl) (fun _ _ _ h=>h) (by intro w hSw;(try dsimp only at hSw);go_simp;try with_reducible rfl) hHeld ?_
   refine AB (i:=8) (v:= ?_) rfl (by kernel_rfl) (fun _ _ _ h=>h) (by intro w hSw;(try dsimp only at hSw);go_simp;try with_reducible rfl) hHeld ?_
   refine AB (i:=9) (v:= ?_) rfl (by kernel_rfl) (fun _ _ _ h=>h) (by intro w hSw;(try dsimp only at hSw);go_simp;try with_reducible rfl) hHeld ?_
   refine AB (i:=10) (v:= ?_) rfl (by kernel_rfl) (fun _ _ _ h=>h) (by intro w hSw;(try dsimp only at hSw);go_simp;try with_reducible rfl) hHeld ?_
   refine wpAnyH_take (i:=11) (v:= .int .u8 ((x2[j+1]'hlt1).toNat:Int)) rfl (by kernel_rfl) (by kernel_rfl) (by kernel_rfl) (fun _ _ _ h=>h) (Or.inl ⟨by rfl,by intro w hSw;(try dsimp only at hSw);go_simp;simp only [HWR.out,Int.toNat_natCast];rw [dif_pos ⟨by omega,by omega⟩];rfl⟩) hHeld ?_
   refine wpAnyH_ready (rs:= [5]) (by kernel_rfl) (by simp) ?_
   refine AllReadyH.cons rfl (fun K hK=> ?_) AllReadyH.nil
   go_simp
   refine(Y3 (x2[j]'hlt) _).mono ?_
   rintro e w4 ⟨rfl,rfl⟩
   refine hK.out _ _ r2 (fun AX=> ?_)
   clear hK K
   refine wpAnyH_ready (rs:= [12]) (by kernel_rfl) (by simp) ?_
   refine AllReadyH.cons rfl (fun K hK=> ?_) AllReadyH.nil
   go_simp
   refine(Y3 (x2[j+1]'hlt1) _).mono ?_
   rintro e w4 ⟨rfl,rfl⟩
   refine hK.out _ _ r2 (fun LQ=> ?_)
   clear hK K
   refine AB (i:=13) (v:= ?_) rfl (by kernel_rfl) (fun _ _ _ h=>h) (by intro w hSw;(try dsimp only at hSw);go_simp;try with_reducible rfl) LQ ?_
   refine AB (i:=14) (v:= ?_) rfl (by kernel_rfl) (fun _ _ _ h=>h) (by intro w hSw;(try dsimp only at hSw);go_simp;try with_reducible rfl) LQ ?_
   refine wpAnyH_done (by kernel_rfl) ?_ _
   obtain⟨ca,hca⟩: ∃ca,ca=x2[j]:=⟨_,rfl⟩
   obtain⟨cb,hcb⟩: ∃cb,cb=x2[j+1]:=⟨_,rfl⟩
   rw [←hca,←hcb]
   have hCA:x2.data.toList[j]?=some ca:=by
    rw [hca]
    have:j<x2.data.toList.length:=by rw [←Lib.size_eq];exact hlt
    rw [List.getElem?_eq_getElem this]
    rfl
   have hCB:x2.data.toList[j+1]?=some cb:=by
    rw [hcb]
    have:j+1<x2.data.toList.length:=by rw [←Lib.size_eq];exact hlt1
    rw [List.getElem?_eq_getElem this]
    rfl
   have hnx:=tJ (k:=k) HHX.out (by rw [←HJ.out];exact hCA) (by rw [←HJ.out];exact hCB)
   have Ul:=AA hnx
   have I8:=AA (tL.out.drew)
   have hx5:AV wr.drew h 59 [.int .i64 n,.slice A1 k c1]:=YU.out.drewN 1
   have ho5:wr.drew.ownsRow (h+1) 5 1 (.slice A1 k c1) k (bs.map bv):=HOWN.out
   generalize wr.drew=w5 at*
   have q0:=hx5.q 0 rfl
   have q1:=hx5.q 1 rfl
   have qf:=hx5.frozen 1
   have mF:=AA hx5;have fK:=AA ho5
   clear hx5 ho5 hHeld AX LQ r2 hca hcb hCA hCB HHX tL YU HOWN hnx
   cases hva:Mw ca with
   | none=>
    have e1:yU ca= -1:=by unfold yU;rw [hva]
    have RH:=AA (tH.out (Ul.out.2 (.inl hva)))
    rw [e1]
    go_wp2_with fail
    refine(AZ _).mono ?_
    rintro e w6 ⟨rfl,rfl⟩
    go_wp2_with fail
    exact⟨rfl,.inl ⟨RH.out,rfl,I8.out⟩⟩
   | some xa=>
    have e1:yU ca=(xa:Int):=by unfold yU;rw [hva]
    have hxa:=j6 hva
    rw [e1]
    cases hvb:Mw cb with
    | none=>
     have e2:yU cb= -1:=by unfold yU;rw [hvb]
     have RH:=AA (tH.out (Ul.out.2 (.inr hvb)))
     rw [e2]
     go_wp2_with fail
     refine(AZ _).mono ?_
     rintro e w6 ⟨rfl,rfl⟩
     go_wp2_with fail
     exact⟨rfl,.inl ⟨RH.out,rfl,I8.out⟩⟩
    | some xb=>
     have e2:yU cb=(xb:Int):=by unfold yU;rw [hvb]
     have hxb:=j6 hvb
     have RH:=AA (Ul.out.1 xa xb hva hvb)
     rw [e2]
     clear e1 e2 Ul hva hvb
     go_wp2_with fail
     refine(AP _).mono ?_
     rintro e w6 ⟨rfl,rfl⟩
     have hor:=AB0 hxa hxb
     have Kq:Hid (Row (w5.alloc (.cells #[.int .u8 (bits BinOp.or IntKind.i64 ((xa:Int)*16) (xb:Int)%256)] 5)) (w5.heap.size+1) (some ⟨w5.heap.size,0,none⟩) [.int .u8 (bits BinOp.or IntKind.i64 ((xa:Int)*16) (xb:Int)%256)]):=AA (Dx w5 [.int .u8 (bits BinOp.or IntKind.i64 ((xa:Int)*16) (xb:Int)%256)] 5)
     have HOR:=AA hor
     obtain⟨i0,hi0,hz,hs',hby⟩:=info_parts G8
     have hkk:k≤1048576:=by have:=HJ.out;omega
     have hlt5:=mF.out.lt
     clear hor
     go_wp2_with (at_builtin;refine Qm _ rfl (.tmp 51) (.tmp 57) 41 rfl (h+1) 5 i0 _ 1 1 underlying41 hi0 hz hs' hby rfl (by omega) _ k (bs.map bv) rfl (fK.out.alloc _) (w5.heap.size+1) _ 1 1 [.int .u8 (bits BinOp.or IntKind.i64 ((xa:Int)*16) (xb:Int)%256)] rfl rfl Kq.out (by intro u hu;simp at hu;subst hu;rfl) (by unfold maxLen;omega) (by omega) (by simp;omega) ?_)
     intro A4 c4 w9 h2 h3 h4
     have hnb: ∀g,(Value.slice A1 k c1).ownBlock=some g→h+1≤g∧g<w5.heap.size:=fun g e=>fK.out.lt g e
     have yX:AV w9 h 59 [.int .i64 n,.slice A1 k c1]:=(h3.block h (by rw [World.size_alloc];omega) (fun e=>by have:=(hnb h e.symm).1;omega)).trans ((mF.out.alloc _))
     have q0:=yX.q 0 rfl
     have q1:=yX.q 1 rfl
     have qf:=yX.frozen 1
     have AA3:Below w.heap.size w w9:=by
      have h1:=I8.out.alloc I8.out.size (.cells #[.int .u8 (bits BinOp.or IntKind.i64 ((xa:Int)*16) (xb:Int)%256)] 5)
      exact⟨h3.os.trans h1.os,h3.tape.trans h1.tape,h3.output.trans h1.output,Nat.le_trans h1.size h3.size,fun q hq=>(h3.block q (Nat.lt_of_lt_of_le hq h1.size) (fun e=>by have:=(hnb q e.symm).1;omega)).trans (h1.block q hq)⟩
     have hfin:tK x2 n w h (.int .i64 ((j+2:Nat):Int)) (w9.setCell ⟨h,1,none⟩ (.slice A4 (k+1) c4)):=by
      refine⟨k+1,j+2,A4,c4,bs++ [UInt8.ofNat (16*xa+xb)],by have:=HJ.out;omega,hlt1,rfl,AA3.setCell (p:=⟨h,1,none⟩) HHL.out _,yX.set 1 _,?_,by rw [List.length_append,AB1.out];rfl,RH.out⟩
      refine OD (p:=⟨h,1,none⟩) ?_ (fun e=>by have:=(h2.lt h e).1;omega) _
      rw [List.map_append]
      have hv:(bv (UInt8.ofNat (16*xa+xb)))= .int .u8 (bits BinOp.or IntKind.i64 ((xa:Int)*16) (xb:Int)%256):=by rw [HOR.out];rfl
      show World.ownsRow _ _ _ _ _ _ (bs.map bv++ [bv (UInt8.ofNat (16*xa+xb))])
      rw [hv]
      exact h2
     have TK:=AA hfin
     clear h2 h3 h4 yX AA3 hfin hnb
     go_wp2_with fail
     exact⟨TK.out,by show x2.size-((j:Int)+2).toNat<x2.size-((j:Int)).toNat;omega⟩
  ·have d1:decide ((j:Int)<(x2.size:Int))=false:=decide_eq_false (by omega)
   have hfull:K3 x2.data.toList=some bs:=by
    have h1:=HHX.out
    have h2:x2.data.toList.length≤2*k:=by have:=HJ.out;rw [←Lib.size_eq];omega
    rwa [List.take_of_length_le h2] at h1
   have HY:=AA (mH.out n bs HN.out hfull)
   obtain⟨i0,hi0,hz,hs',hby⟩:=info_parts mM
   have g1:=(tL.out.cell (p:=⟨b,6,none⟩) hbl).trans hc1
   have e0:=YU.out.q 0 rfl
   have e1:=YU.out.q 1 rfl
   have OZ:=YU.out.lt
   have YS:=tL.out.size
   have FX:Below wr.heap.size wr (wr.alloc (.cells #[.int .i64 n,.slice A1 k c1] 59)).drew:=((Below.refl _ _).alloc (Nat.le_refl _) _).drew
   have NC:=AA (tL.out.trans (FX.mono YS))
   have k1:=(FX.cell (p:=⟨b,6,none⟩) (show b<wr.heap.size by omega)).trans g1
   have k2:=(FX.cell (p:=⟨h,0,none⟩) OZ).trans e0
   have k3:=(FX.cell (p:=⟨h,1,none⟩) OZ).trans e1
   have XO:=AA (CJ HP.out.own NC.out)
   have hrd:(Rd.u8.sl false).R (wr.alloc (.cells #[.int .i64 n,.slice A1 k c1] 59)).drew (h+1) wr.heap.size [.slice A1 k c1] bs:=by
    have h0:(Rd.u8.sl false).R wr (h+1) wr.heap.size [.slice A1 k c1] bs:=Rd.own false (r:=Rd.u8) HOWN.out AB1.out.symm (fun q x hx=>by
     show((bs.map bv).drop (q*1)).take 1= [bv x]∧True
     have hlt:=(List.getElem?_eq_some_iff.1 hx)
     refine⟨?_,trivial⟩
     rw [Nat.mul_one,←List.map_drop,List.drop_eq_getElem_cons hlt.1,hlt.2]
     rfl)
    exact(Rd.u8.sl false).below h0 FX (Nat.le_refl _)
   have HRD:=AA hrd
   have Kq:Hid (Row (wr.alloc (.cells #[.int .i64 n,.slice A1 k c1] 59)).drew (wr.heap.size+1) (some ⟨wr.heap.size,0,none⟩) [.int .i64 n,.slice A1 k c1]):=AA (Dx wr [.int .i64 n,.slice A1 k c1] 59)
   have HKB:=AA AB1.out
   clear FX hrd YU HOWN HHX hfull
   go_wp2_with fail
   go_region_law (refine ES rfl (.tmp 65) (.tmp 67) 26 rfl B 59 i0 _ 2 32 underlying26 hi0 hz hs' hby rfl (by omega) _ m.dat.length Ip rfl XO.out _ _ 1 1 [.int .i64 n,.slice A1 k c1] rfl rfl Kq.out (by intro u hu;simp at hu;rcases hu with rfl | rfl<;>rfl) (by unfold maxLen;omega) (by omega) (by simp;omega) ?_;intro A4 c4 w9 h2 h3 h4;have Ia:=HR.out.old NC.out h3 (fun g e=>(HP.out.lt g e).1);have Y1:=Ia.frozen 6;have hc4:=Ia.cell 6;have H2:=AA h2;have H3:=AA h3;have H4:=AA h4;clear h2 h3 h4 Ia)
   all_goals
    go_end0
    refine .inr ⟨_,HY.out,rfl,HR.out.ADy HP.out NC.out (lo:=h+1) (hi:=wr.heap.size) (x:=⟨n,bs⟩) (N7.2 ⟨.slice A1 k c1,rfl,HM.out,HRD.out⟩) (by have:=HHL.out;omega) (by first | (simp;done) | (simp;omega)) H2.out H3.out H4.out⟩
theorem dB (h0:ws≠ []) (hk:ws.length≠3) (Inv:World→AQ→Prop):
 Calls prog 94 #[.pointer (some ⟨b,0,none⟩),.slice (some ⟨A,0,none⟩) ws.length ws.length] w (K6 Inv B b w (Ar 7 m ws.tail)):=by
 have HN:=AA (Mg (m:=m) (p:=7) (k:=3) (by decide) h0 hk)
 have HK:Hid (decide (ws.length=3)=false):=AA (decide_eq_false hk)
 clear h0 hk
 go_enter func94,ntmps94
 go_wp2_with fail
 refine(C_ (some ⟨A,0,none⟩) ws.length ws.length 3 w).mono ?_
 rintro e w1 ⟨rfl,⟨h1,rfl⟩ | ⟨h1,rfl⟩⟩
 ·rw [HK.out] at h1;cases h1
 go_wp2_with fail
 exact⟨rfl,.inl ⟨HN.out,rfl,Below.refl _ _⟩⟩
theorem yY (h:XK B b A hi w col v1 v2 v3 v6 v7 v8 m st ln ws) (h0:ws≠ []):
 Calls prog 94 #[.pointer (some ⟨b,0,none⟩),.slice (some ⟨A,0,none⟩) ws.length ws.length] w (K6 (fun W m'=>Ti B b W m' st ln) B b w (Ar 7 m ws.tail)):=by
 by_cases hk:ws.length=3
 case neg=>exact dB h0 hk _
 obtain⟨x0,x1,x2,rfl⟩:=yR hk
 exact mO h
end
section
variable {B b A hi:Nat} {w:World} {col:Nat→Nat} {v1 v2 v3 v6 v7 v8:Value} {m:AQ} {st ln:Nat} {ws:List ByteArray}
theorem bq (h0:ws≠ []) (hk:ws.length≠2) (Inv:World→AQ→Prop):
 Calls prog 90 #[.pointer (some ⟨b,0,none⟩),.slice (some ⟨A,0,none⟩) ws.length ws.length] w (K6 Inv B b w (Ar 3 m ws.tail)):=by
 have HN:=AA (Mg (m:=m) (p:=3) (k:=2) (by decide) h0 hk)
 have HK:Hid (decide (ws.length=2)=false):=AA (decide_eq_false hk)
 clear h0 hk
 go_enter func90,ntmps90
 go_wp2_with fail
 refine(C_ (some ⟨A,0,none⟩) ws.length ws.length 2 w).mono ?_
 rintro e w1 ⟨rfl,⟨h1,rfl⟩ | ⟨h1,rfl⟩⟩
 ·rw [HK.out] at h1;cases h1
 go_wp2_with fail
 exact⟨rfl,.inl ⟨HN.out,rfl,Below.refl _ _⟩⟩
theorem gT {x0 x1:ByteArray} (h:XK B b A hi w col v1 v2 v3 v6 v7 v8 m st ln [x0,x1]) (hn:CK x1=none) (Inv:World→AQ→Prop):
 Calls prog 90 #[.pointer (some ⟨b,0,none⟩),.slice (some ⟨A,0,none⟩) 2 2] w (K6 Inv B b w (Ar 3 m [x1])):=by
 obtain⟨A2,c2,Ip,e2,hP⟩:=h.rd.six.p2
 subst e2
 have hc1:=h.rd.blk.q 1 rfl
 have hw1:w.cell? ⟨A,1,none⟩=some (.string x1):=h.wd.at_ 1 _ rfl
 have hbl:=h.rd.blk.lt
 have Om:=h.wd.lt
 have hhi:=h.hhi
 have HX:=AA (h.wd.sz x1 (by simp));have HN:=AA hn;have HE:=AA h.env
 have HRN:Hid (Ar 3 m [x1]=none):=AA (by show(CK x1).map _=none;rw [hn];rfl)
 clear h hn hP
 go_enter func90,ntmps90
 go_wp2_with fail
 refine(C_ (some ⟨A,0,none⟩) 2 2 2 w).mono ?_
 rintro e w1 ⟨rfl,I4⟩
 rcases I4 with⟨_,rfl⟩ | ⟨hf,_⟩
 case inr=>exact absurd hf (by decide)
 go_wp2_with fail
 refine wp_region_held_drew (S:=fun W=>W.cell? ⟨b,1,none⟩=some (.slice A2 m.hosts.length c2)∧W.cell? ⟨A,1,none⟩=some (.string x1)) (by kernel_rfl) ⟨hc1,hw1⟩ (fun hHeld=> ?_)
 refine AB (i:=0) (v:= ?_) rfl (by kernel_rfl) (fun _ _ _ h=>h) (by intro w hSw;(try dsimp only at hSw);go_simp;try with_reducible rfl) hHeld ?_
 refine AB (i:=1) (v:= ?_) rfl (by kernel_rfl) (fun _ _ _ h=>h) (by intro w hSw;(try dsimp only at hSw);go_simp;try with_reducible rfl) hHeld ?_
 refine AB (i:=2) (v:= ?_) rfl (by kernel_rfl) (fun _ _ _ h=>h) (by intro w hSw;(try dsimp only at hSw);go_simp;try with_reducible rfl) hHeld ?_
 refine AB (i:=3) (v:= ?_) rfl (by kernel_rfl) (fun _ _ _ h=>h) (by intro w hSw;(try dsimp only at hSw);go_simp;try with_reducible rfl) hHeld ?_
 refine AB (i:=4) (v:= ?_) rfl (by kernel_rfl) (fun _ _ _ h=>h) (by intro w hSw;(try dsimp only at hSw);go_simp;try with_reducible rfl) hHeld ?_
 refine AB (i:=5) (v:= ?_) rfl (by kernel_rfl) (fun _ _ _ h=>h) (by intro w hSw;(try dsimp only at hSw);go_simp;try with_reducible rfl) hHeld ?_
 refine AB (i:=6) (v:= ?_) rfl (by kernel_rfl) (fun _ _ _ h=>h) (by intro w hSw;(try dsimp only at hSw);go_simp;try with_reducible rfl) hHeld ?_
 refine AB (i:=7) (v:= ?_) rfl (by kernel_rfl) (fun _ _ _ h=>h) (by intro w hSw;(try dsimp only at hSw);go_simp;try with_reducible rfl) hHeld ?_
 refine AB (i:=8) (v:= ?_) rfl (by kernel_rfl) (fun _ _ _ h=>h) (by intro w hSw;(try dsimp only at hSw);go_simp;try with_reducible rfl) hHeld ?_
 refine wpAnyH_ready (rs:= [9]) (by kernel_rfl) (by simp) ?_
 refine AllReadyH.cons rfl (fun K hK=> ?_) AllReadyH.nil
 go_simp
 go_at_call 142
 refine(Dq x1 (by have:=HX.out;omega) _ (HE.out.up (below_drewN (Below.refl _ _) 1) (by omega)) (by first | (simp;omega) | omega)).mono ?_
 rintro e w2 ⟨hb2,⟨h0,rfl⟩ | ⟨k,hk,_,rfl⟩⟩
 ·go_wp2_with fail
  exact⟨rfl,.inl ⟨HRN.out,rfl,Af hb2⟩⟩
 ·exact absurd (hk.symm.trans HN.out) (by simp)
theorem gU {x0 x1:ByteArray} {n:Int} (h:XK B b A hi w col v1 v2 v3 v6 v7 v8 m st ln [x0,x1]) (hn:CK x1=some n):
 Calls prog 90 #[.pointer (some ⟨b,0,none⟩),.slice (some ⟨A,0,none⟩) 2 2] w fun e w'=>e= .returned (.tuple #[])∧Keep (fun k=>k<B∧k≠b) w w'∧Ti B b w' {m with hosts:=m.hosts++ [n]} st ln:=by
 obtain⟨A2,c2,Ip,e2,hP⟩:=h.rd.six.p2
 subst e2
 obtain⟨i0,hi0,hz,hs',hby⟩:=info_parts bn
 have hc1:=h.rd.blk.q 1 rfl
 have hw1:w.cell? ⟨A,1,none⟩=some (.string x1):=h.wd.at_ 1 _ rfl
 have hbl:=h.rd.blk.lt
 have Om:=h.wd.lt
 have hhi:=h.hhi
 have hlow:=h.rd.low
 have htop:=h.rd.top
 have hq:=h.lens.hosts
 have HX:=AA (h.wd.sz x1 (by simp));have Uk:=AA (h.wd.sz x1 (by simp));have HN:=AA hn;have HE:=AA h.env;have HR:=AA h.rd;have HP:=AA hP
 clear h hn hP
 go_enter func90,ntmps90
 go_wp2_with fail
 refine(C_ (some ⟨A,0,none⟩) 2 2 2 w).mono ?_
 rintro e w1 ⟨rfl,I4⟩
 rcases I4 with⟨_,rfl⟩ | ⟨hf,_⟩
 case inr=>exact absurd hf (by decide)
 go_wp2_with fail
 go_region_law
  (first
   | (go_simp;go_at_call 142;refine(Dq x1 (by have:=HX.out;omega) w.drew (HE.out.up (below_drewN (Below.refl _ _) 1) (by omega)) (by first | (simp;omega) | omega)).mono ?_;rintro e w2 ⟨hb2,⟨h0,rfl⟩ | ⟨k,hk,b_,rfl⟩⟩;exact absurd (h0.symm.trans HN.out) (by simp);obtain rfl:k=n:=Option.some.inj (hk.symm.trans HN.out);have hS:=Af hb2;have HS:=AA hS;have g1:=(hS.cell (p:=⟨b,1,none⟩) (show b<w.heap.size by omega)).trans hc1;have hsz2:w.heap.size≤w2.heap.size:=hS.size;have g1a:=(((Below.refl w2.heap.size w2).alloc (Nat.le_refl _) (.cells #[.int .i64 k] 3)).cell (p:=⟨b,1,none⟩) (show b<w2.heap.size by omega)).trans g1;have Kq:=AA (Dx w2 [.int .i64 k] 3);have sW:=AA b_;have qC:=AA (CJ HP.out.own hS);clear hb2 hk b_ hS)
   | (refine ES rfl (.tmp 11) (.tmp 16) 23 rfl B 3 i0 _ 1 8 underlying23 hi0 hz hs' hby rfl (by omega) _ m.hosts.length Ip rfl (qC.out.alloc _) (w2.heap.size+1) _ 1 1 [.int .i64 k] rfl rfl Kq.out (by intro u hu;simp at hu;rcases hu with rfl<;>rfl) (by unfold maxLen;omega) (by omega) (by simp;omega) ?_;intro A4 c4 w4 h2 h3 h4;have Ia:=HR.out.old (HS.out.alloc HS.out.size _) h3 (fun g e=>(HP.out.lt g e).1);have Y1:=Ia.frozen 1;have hc4:=Ia.cell 1;have H2:=AA h2;have H3:=AA h3;have H4:=AA h4;clear h2 h3 h4 Ia))
 all_goals
  go_end0
  exact⟨rfl,HR.out.ADx HP.out (HS.out.alloc HS.out.size _) (lo:=w.heap.size) (hi:=w.heap.size) (⟨rfl,sW.out⟩) (Nat.le_refl _) (by simp;omega) H2.out H3.out H4.out⟩
theorem yS (h:XK B b A hi w col v1 v2 v3 v6 v7 v8 m st ln ws) (h0:ws≠ []):
 Calls prog 90 #[.pointer (some ⟨b,0,none⟩),.slice (some ⟨A,0,none⟩) ws.length ws.length] w (K6 (fun W m'=>Ti B b W m' st ln) B b w (Ar 3 m ws.tail)):=by
 by_cases hk:ws.length=2
 case neg=>exact bq h0 hk _
 obtain⟨x0,x1,rfl⟩:=len2 hk
 cases hn:CK x1 with
 | none=>exact gT h hn _
 | some n=>
  refine(gU h hn).mono ?_
  rintro e w' ⟨rfl,hk,hr⟩
  exact .inr ⟨_,by show(CK x1).map _=_;rw [hn];rfl,rfl,hk,hr⟩
end
theorem dD (fs:List FL) (f:FL) (x:Av):Im (fs++ [f]) x=fs++ [{f with code:=f.code++ [x]}]:=by
 unfold Im
 rw [List.getLast?_concat,List.dropLast_concat]
theorem FnO.Zp {B lo:Nat} {col:Nat→Nat} {W w3 w4:World} {gF c:Nat} {cells:List Value} {vc:Value} {fs:List FL} {f:FL} (h:FnO B lo col W (some ⟨gF,0,none⟩) c cells vc fs f) (hb:Below W.heap.size W w3) {v:Value} (hg:w3.grownBy w4 v.ownBlock) (hv: ∀g,v.ownBlock=some g→lo≤g∧g<W.heap.size):
 w4.frozen? ⟨gF,fs.length*3+2,none⟩=false∧w4.cell? ⟨gF,fs.length*3+2,none⟩=some vc:=by
 have h1:=CJ h.own hb
 have h2:=h1.kept hg (.inr (fun e=>by
  have e2:v.ownBlock=some gF:=e.symm
  have:=(hv gF e2).1
  have:=(h.at_ gF rfl).2
  omega))
 have hcl:cells.length=fs.length*3:=by
  have:=h.own.1
  rw [List.length_append] at this
  simp at this
  omega
 constructor
 ·rcases h2.2 with⟨_,h0⟩ | ⟨g,cap,cur,hv,_,hg,_⟩
  ·omega
  ·injection hv with e1
   injection e1 with e1
   injection e1 with e1
   subst e1
   exact AV.frozen (xs:=cur.toList) (t:=56) hg _
 ·have:=h2.cells (g:=gF) rfl (fs.length*3+2) vc (by rw [List.getElem?_append,if_neg (by omega),show fs.length*3+2-cells.length=2 by omega];rfl)
  rwa [Addr.add_lit,Nat.zero_add] at this
section
variable {B b:Nat} {w w3 w4:World} {m:AQ} {ln:Nat} {fs:List FL} {f:FL} {lo:Nat} {col:Nat→Nat} {v1 v2 v3 v7 v8:Value} {gF c:Nat} {cells:List Value}
theorem l9.push (vc:Value) {Ac:Option Addr} {cc:Nat} {JU:List Value} (h:l9 B b w m ln fs f lo col v1 v2 v3 v7 v8 (some ⟨gF,0,none⟩) c cells (.slice Ac f.code.length cc)) (hP:Nn I_ 53 lo (fun _=>True) w Ac f.code.length cc JU f.code)
 (hb:Below w.heap.size w w3) {A':Option Addr} {c' l1 h1:Nat} {cs:List Value} {x:Av} (hr:I_.R w3 l1 h1 cs x) (hlo:w.heap.size≤l1) (hhi:h1≤w3.heap.size)
 (ho:w4.ownsRow lo 53 3 (.slice A' (f.code.length+1) c') (f.code.length+1) (JU++cs)) (hg:w3.grownBy w4 (Value.slice Ac f.code.length cc).ownBlock) (hat:(Value.slice A' (f.code.length+1) c').ownBlock=(Value.slice Ac f.code.length cc).ownBlock∨(Value.slice A' (f.code.length+1) c').ownBlock=some w3.heap.size):
 Keep (fun k=>k<B∧k≠b) w (w4.setCell ⟨gF,fs.length*3+2,none⟩ (.slice A' (f.code.length+1) c'))∧Ko B b (w4.setCell ⟨gF,fs.length*3+2,none⟩ (.slice A' (f.code.length+1) c')) {m with fns:=Im m.fns x} ln:=by
 have hF:=h.fn
 have hlow:=h.low
 have htop:=h.top
 have hgF:=hF.at_ gF rfl
 have hgB:B≤gF:=(hF.own.lt gF rfl).1
 have hK:=Mf (b:=gF) hb hg (fs.length*3+2) (.slice A' (f.code.length+1) c')
 have hcb: ∀k,(Value.slice Ac f.code.length cc).ownBlock=some k→lo≤k∧k<w.heap.size:=fun k e=>hP.lt k e
 have hlB:=hF.lo_
 have dA:=hF.hi_
 have tC:w3.heap.size≤w4.heap.size:=hg.size
 have mP:=hb.size
 have hKB: ∀k,k<w.heap.size→k<lo→k≠gF→(k≠gF∧(Value.slice Ac f.code.length cc).ownBlock≠some k):=fun k h1 h2 h3=>⟨h3,fun e=>by have:=(hcb k e).1;omega⟩
 refine⟨hK.ER fun k hk hk2=>hKB k hk (by omega) (by omega),?_⟩
 have j_: ∀k,k<w.heap.size→K5 w col 9 k=col k:=fun k hk=>Ao hk rfl
 have hc9: ∀k,k<w.heap.size→(col k=1∨col k=2∨col k=3∨col k=7∨col k=8∨col k=6)→k<lo:=fun k hk hc=>by
  refine Decidable.byContradiction fun hn=> ?_
  have:=hF.new k (by omega) hk
  omega
 have hsn:=hP.snoc hb (Nat.le_trans (Nat.le_refl _) dA) hr hlo hhi ho hg hat (S':=fun _=>True) (fun _ _ _=>trivial) (fun _ _=>trivial)
 have hrow:w4.ownsRow B 56 3 (.slice (some ⟨gF,0,none⟩) (fs.length+1) c) (fs.length+1) (cells++ [.int .i64 f.t,.string f.loc,.slice Ac f.code.length cc]):=by
  have h1:=CJ hF.own hb
  exact h1.kept hg (.inr (fun e=>by
   have e2:(Value.slice Ac f.code.length cc).ownBlock=some gF:=e.symm
   have:=(hcb gF e2).1
   omega))
 have hst:=hrow.stored (fs.length*3+2) (.slice A' (f.code.length+1) c')
 have hcl:cells.length=fs.length*3:=by
  have:=hF.own.1
  rw [List.length_append] at this
  simp at this
  omega
 have hset:(cells++ [Value.int .i64 f.t,.string f.loc,.slice Ac f.code.length cc]).set (fs.length*3+2) (.slice A' (f.code.length+1) c')=cells++ [.int .i64 f.t,.string f.loc,.slice A' (f.code.length+1) c']:=by
  rw [List.set_append,if_neg (by omega),show fs.length*3+2-cells.length=2 by omega]
  rfl
 rw [hset] at hst
 have hl1:(f.code++ [x]).length=f.code.length+1:=by rw [List.length_append];rfl
 have hblk:AV (w4.setCell ⟨gF,fs.length*3+2,none⟩ (.slice A' (f.code.length+1) c')) b 104 [v1,v2,v3,.int .i64 m.first,.int .i64 m.most,.slice (some ⟨gF,0,none⟩) (fs.length+1) c,v7,v8,.int .i64 (6:Nat),.int .i64 ln]:=
  h.blk.keep hK ⟨by omega,fun e=>by have:=(hcb b e).1;omega⟩
 refine⟨fs,{f with code:=f.code++ [x]},lo,K5 w col 9,v1,v2,v3,v7,v8,some ⟨gF,0,none⟩,c,cells,.slice A' (f.code.length+1) c',⟨hblk,?_,⟨hst.1,?_,?_,hF.t,hF.loc,?_,hlB,Nat.le_trans dA hK.size,?_⟩,?_,hlow,Nat.le_trans htop hK.size,h.first,h.most⟩⟩
 ·exact h.five.keep hK (fun k hBk hk hc=>hKB k hk (hc9 k hk (by omega)) (fun e=>by rw [e] at hc;omega)) _ (fun k hk _=>j_ k hk) rfl rfl rfl rfl rfl
 ·intro g hg'
  have:=hF.at_ g hg'
  exact⟨by rw [j_ g (by omega)];exact this.1,this.2⟩
 ·intro k y hk
  obtain⟨l,hh,g1,g2,g3,g4,g5⟩:=hF.els k y hk
  refine⟨l,hh,g1,g2,g3,fun g ha hb'=>by rw [j_ g (by omega)];exact g4 g ha hb',?_⟩
  refine Rd.Iz (K:=fun k=>k≠gF∧(Value.slice Ac f.code.length cc).ownBlock≠some k) g5 hK (by omega) (fun k ha hb'=>hKB k (by omega) (by omega) (fun e=> ?_))
  have:=g3 gF rfl
  omega
 ·refine⟨A',c',JU++cs,by show _=Value.slice A' (f.code++ [x]).length c';rw [hl1],?_⟩
  show Nn I_ 53 lo _ _ A' (f.code++ [x]).length c' (JU++cs) (f.code++ [x])
  rw [hl1]
  refine hsn.keep (K:=fun k=>k≠gF) ((Keep.refl _ w4).setCell (p:=⟨gF,fs.length*3+2,none⟩) (fun e=>e rfl) _) (fun k hk _ _=>by omega) (fun k _ e=>e)
 ·intro k hk hk2
  by_cases h2:k<w.heap.size
  ·rw [j_ k h2];exact hF.new k hk h2
  ·exact OE (by omega)
 ·show Im m.fns x=_
  rw [h.fns,dD]
end
structure Fam (k:Nat) (w:World) (base:Nat) (e:TypeId) (f:Nat→Value×List Value):Prop where
 own: ∀i,i<k→w.ownsRow base e 1 (f i).1 (f i).2.length (f i).2
 apart: ∀i j,i<k→j<k→i≠j→ ∀b,(f i).1.ownBlock=some b→(f j).1.ownBlock≠some b
def y7 (f:Nat→Value×List Value) (i:Nat) (x:Value×List Value):Nat→Value×List Value:=fun j=>if j=i then x else f j
section
variable {k:Nat} {w w':World} {base:Nat} {e:TypeId} {f g:Nat→Value×List Value}
theorem Fam.congr (h:Fam k w base e f) (hg: ∀i,i<k→g i=f i):Fam k w base e g:=
 ⟨fun i hi=>by rw [hg i hi];exact h.own i hi,fun i j hi hj hn=>by rw [hg i hi,hg j hj];exact h.apart i j hi hj hn⟩
theorem Fam.below (h:Fam k w base e f) (hb:Below w.heap.size w w'):Fam k w' base e f:=
 ⟨fun i hi=>CJ (h.own i hi) hb,h.apart⟩
theorem Fam.put (h:Fam k w base e f) {i:Nat} (hi:i<k) {v:Value} {xs:List Value} (hg:w.grownBy w' (f i).1.ownBlock) (ho:w'.ownsRow base e 1 v xs.length xs)
 (hb:v.ownBlock=(f i).1.ownBlock∨ ∃n,w.heap.size≤n∧v.ownBlock=some n):Fam k w' base e (y7 f i (v,xs)):=by
 constructor
 ·intro j hj
  unfold y7
  split
  ·exact ho
  ·rename_i hn
   refine(h.own j hj).kept hg ?_
   cases hv:(f j).1.ownBlock with
   | none=>exact .inl rfl
   | some b=>exact .inr fun e=>h.apart j i hj hi hn b hv e.symm
 ·intro a b ha hb' hn c hc hd
  unfold y7 at hc hd
  split at hc
  ·rename_i ea
   rw [if_neg (by omega)] at hd
   rcases hb with e | ⟨n,hn2,e⟩
   ·rw [e] at hc;exact h.apart i b hi hb' (by omega) c hc hd
   ·rw [e] at hc
    injection hc with hc
    have:=((h.own b hb').lt c hd).2
    omega
  ·split at hd
   ·rcases hb with e | ⟨n,hn2,e⟩
    ·rw [e] at hd;exact h.apart a i ha hi (by omega) c hc hd
    ·rw [e] at hd
     injection hd with hd
     have:=((h.own a ha).lt c hc).2
     omega
   ·exact h.apart a b ha hb' hn c hc hd
theorem Fam.set (h:Fam k w base e f) {i:Nat} (hi:i<k) {b n c:Nat} (hv:(f i).1= .slice (some ⟨b,0,none⟩) n c) (hn:n=(f i).2.length) (p:Nat) (u:Value):
 Fam k (w.setCell ⟨b,p,none⟩ u) base e (y7 f i ((f i).1,(f i).2.set p u)):=by
 subst hn
 have ho:=h.own i hi
 rw [hv] at ho
 have hs:=ho.stored p u
 refine h.put hi (v:=(f i).1) (xs:=(f i).2.set p u) ?_ ?_ (.inl rfl)
 ·rw [hv];exact hs.2
 ·rw [List.length_set,hv];exact hs.1
theorem Fam.o (h:Fam k w base e f) (i:Nat) (hi:i<k) {v:Value} {xs:List Value} {n:Nat} (hf:f i=(v,xs)) (hn:n=xs.length):w.ownsRow base e 1 v n xs:=by
 have:=h.own i hi
 rw [hf] at this
 rw [hn];exact this
theorem mq {v:Value} {n:Nat} {xs:List Value} (h:w.ownsRow base e 1 v n xs) (hn:0<n): ∃b c,v= .slice (some ⟨b,0,none⟩) n c∧base≤b∧b<w.heap.size∧n≤c:=by
 rcases h.2 with⟨_,h0⟩ | ⟨g,cap,cur,hv,hb,hg,hle,_⟩
 ·omega
 ·exact⟨g,cap,hv,hb,(Array.getElem?_eq_some_iff.1 hg).1,hle⟩
end
theorem dI {w:World} {base:Nat} {e:TypeId} {A:Option Addr} {n c:Nat} {xs:List Int} (h:w.ownsRow base e 1 (.slice A n c) n (xs.map (Value.int .i64))) (hb: ∀x∈xs,Rd.Ej x):
 (Rd.i64.sl false).R w base w.heap.size [.slice A n c] xs:=by
 have hl:n=xs.length:=by have:=h.1;simpa using this.symm
 refine Rd.own false (r:=Rd.i64) h hl fun k x hk=> ?_
 show(((xs.map (Value.int .i64)).drop (k*1)).take 1)= [Value.int .i64 x]∧Rd.Ej x
 have hlt:=(List.getElem?_eq_some_iff.1 hk)
 refine⟨?_,hb x (List.mem_of_getElem? hk)⟩
 rw [Nat.mul_one,←List.map_drop,List.drop_eq_getElem_cons hlt.1,hlt.2]
 rfl
def JW (n:Nat):List UInt8:=((List.range n).filter (fun k=>(CG k).isSome)).map UInt8.ofNat
theorem XV (n:Nat):JW (n+1)=JW n++(if(CG n).isSome then [UInt8.ofNat n] else []):=by
 unfold JW
 rw [List.range_succ,List.filter_append,List.map_append]
 congr 1
 by_cases h:(CG n).isSome=true
 ·simp [List.filter_cons,h]
 ·simp [List.filter_cons,h]
theorem mg (n:Nat):(JW n).length≤n:=by
 unfold JW
 rw [List.length_map]
 exact Nat.le_trans (List.length_filter_le _ _) (by simp)
theorem mh:JW 256=Dj.map (fun r=>UInt8.ofNat r.op):=by kernel_rfl
def h_ (w:World) (l i:Value) (wr:World):Prop:=
 ∃(n:Nat) (A:Option Addr) (c:Nat),n≤256∧i= .int .i64 n∧l= .slice A (JW n).length c∧wr.ownsRow w.heap.size 5 1 (.slice A (JW n).length c) (JW n).length ((JW n).map bv)∧Below w.heap.size w wr
theorem yx (w:World) (htab:Lib.TabIs prog w "strings.asciiSpace" .u8 Lib.asciiSpaceTab):
 Calls prog 192 #[] w fun e w'=> ∃A c,e= .returned (.slice A (JW 256).length c)∧w'.ownsRow w.heap.size 5 1 (.slice A (JW 256).length c) (JW 256).length ((JW 256).map bv)∧Below w.heap.size w w':=by
 have Ht:=AA (Lib.tabBelow_of_tabIs htab)
 clear htab
 obtain⟨i0,hi0,hz,hs',hby⟩:=info_parts G8
 go_enter func192,ntmps192
 go_wp2_with fail
 go_loopw [1,6] (fun l i wr=>h_ w l i wr) (fun _ i _=>256-(intOf i).toNat)
 case atStart=>exact⟨0,none,0,Nat.zero_le _,rfl,rfl,⟨by simp [JW],.inl ⟨rfl,rfl⟩⟩,Below.refl _ _⟩
 case round=>
  obtain⟨n,A,c,hn,rfl,rfl,hown,hb⟩:=hrel
  have HOWN:=AA hown;have HB:=AA hb
  have hlen:=mg n
  clear hown hb
  by_cases hlt:n<256
  ·have d1:decide ((n:Int)<256)=true:=decide_eq_true (by omega)
   have hm:(n:Int)%256=(n:Int):=by omega
   have HC:=AA (kD n wr (by omega) (Ht.out wr HB.out))
   go_wp2_with fail
   refine HC.out.mono ?_
   clear HC
   rintro e w2 ⟨hb2,⟨hl,rfl⟩ | ⟨hl,g,rfl,hg1,hg2,hc⟩⟩
   ·have hno:(CG n).isSome=false:=by
     cases hr:CG n with
     | none=>rfl
     | some r=>
      obtain⟨x,hx,_⟩:=R6 (by omega) hr
      have:=(List.getElem?_eq_some_iff.1 hx).1
      omega
    have hnx:JW (n+1)=JW n:=by rw [XV,hno];simp
    have hfin:h_ w (.slice A (JW n).length c) (.int .i64 ((n+1:Nat):Int)) w2:=⟨n+1,A,c,by omega,rfl,by rw [hnx],by rw [hnx];exact CJ HOWN.out hb2,HB.out.trans (hb2.mono HB.out.size)⟩
    have TK:=AA hfin
    clear hl hb2 hno hnx hfin
    go_wp2_with fail
    exact⟨TK.out,by show 256-((n:Int)+1).toNat<256-(n:Int).toNat;omega⟩
   ·have hyes:(CG n).isSome=true:=by
     cases hr:CG n with
     | none=>have:=XT (by omega) hr;omega
     | some r=>rfl
    have hnx:JW (n+1)=JW n++ [UInt8.ofNat n]:=by rw [XV,hyes];rfl
    have hge:decide ((0:Int)≤((n-(Dw n).1:Nat):Int))=true:=decide_eq_true (by omega)
    have qC:=AA (CJ HOWN.out hb2);have HB2:=AA (HB.out.trans (hb2.mono HB.out.size));have Ul:=AA hnx
    generalize (Dw n).2.2=ah at*
    generalize (Lib.fields (Dw n).2.1.data.toList).length=fl at*
    generalize n-(Dw n).1=nn at*
    have Kq:Hid (Row (w2.alloc (.cells #[.int .u8 n] 5)) (w2.heap.size+1) (some ⟨w2.heap.size,0,none⟩) [.int .u8 n]):=AA (Dx w2 [.int .u8 n] 5)
    have hsz2:=HB2.out.size
    generalize fO:JW n=LL at*
    clear hl hb2 hyes hnx hc
    go_wp2_with (at_builtin;refine Qm _ rfl (.tmp 18) (.tmp 21) 41 rfl w.heap.size 5 i0 _ 1 1 underlying41 hi0 hz hs' hby rfl (by omega) _ LL.length (LL.map bv) rfl (qC.out.alloc _) (w2.heap.size+1) _ 1 1 [.int .u8 n] rfl rfl Kq.out (by intro u hu;simp at hu;subst hu;rfl) (by unfold maxLen;omega) (by omega) (by simp;omega) ?_)
    intro A4 c4 w9 h2 h3 h4
    have hfin:h_ w (.slice A4 (LL.length+1) c4) (.int .i64 ((n+1:Nat):Int)) w9:=by
     refine⟨n+1,A4,c4,by omega,rfl,?_,?_,?_⟩
     ·rw [Ul.out,List.length_append];rfl
     ·rw [Ul.out,List.length_append,List.map_append]
      have hv:bv (UInt8.ofNat n)= .int .u8 n:=by
       unfold bv
       rw [UInt8.toNat_ofNat',Nat.mod_eq_of_lt (by omega)]
      show World.ownsRow _ _ _ _ _ _ (LL.map bv++ [bv (UInt8.ofNat n)])
      rw [hv]
      exact h2
     ·have h1:=HB2.out.alloc hsz2 (.cells #[.int .u8 n] 5)
      exact⟨h3.os.trans h1.os,h3.tape.trans h1.tape,h3.output.trans h1.output,Nat.le_trans h1.size h3.size,fun q hq=>(h3.block q (Nat.lt_of_lt_of_le hq h1.size) (fun e=>by have:=(qC.out.lt q e.symm).1;omega)).trans (h1.block q hq)⟩
    have TK:=AA hfin
    clear h2 h3 h4 hfin
    go_wp2_with fail
    exact⟨TK.out,by show 256-((n:Int)+1).toNat<256-(n:Int).toNat;omega⟩
  ·have d1:decide ((n:Int)<256)=false:=decide_eq_false (by omega)
   have hn6:n=256:=by omega
   subst hn6
   go_wp2_with fail
   go_ret
   exact⟨A,c,rfl,HOWN.out,HB.out⟩
theorem kF: ∀r∈Dj,CG r.op=some r:=by
 unfold Dj
 repeat (refine List.forall_mem_cons.2 ⟨by kernel_rfl,?_⟩)
 exact fun _ h=>by cases h
theorem t_:Dj.all (fun r=>decide (r.op<256))=true:=by kernel_rfl
theorem kG {α:Type} (p:α→Bool): ∀(l:List α) (k:Nat) (x:α),l[k]?=some x→p x=true→(∀j y,j<k→l[j]?=some y→p y=false)→l.find? p=some x
 | [],k,x,h,_,_=>by cases h
 | y::l,0,x,h,hp,_=>by
  injection h with h
  subst h
  rw [List.find?_cons,hp]
 | y::l,k+1,x,h,hp,hn=>by
  rw [List.find?_cons,hn 0 y (by omega) rfl]
  exact kG p l k x h hp (fun j z hj hz=>hn (j+1) z (by omega) hz)
def QH (w:ByteArray):Value:=match N_ w with
 | none=> .tuple #[.int .u8 0,.bool false]
 | some r=> .tuple #[.int .u8 (r.op:Nat),.bool true]
def y9 (s:ByteArray) (w:World) (i:Value) (wr:World):Prop:=
 ∃k:Nat,k≤Dj.length∧i= .int .i64 k∧Below w.heap.size w wr∧ ∀j y,j<k→Dj[j]?=some y→y.word≠s
theorem Y5 (s:ByteArray) (w:World) {hi:Nat} (htab: ∀w',Below hi w w'→Lib.TabIs prog w' "strings.asciiSpace" .u8 Lib.asciiSpaceTab) (hhi:hi≤w.heap.size):
 Calls prog 149 #[.string s] w fun e w'=>Below w.heap.size w w'∧e= .returned (QH s):=by
 have HT:=AA htab;have OG:=AA hhi
 have HA:=AA (yx w (htab w (Below.refl _ _)))
 clear htab hhi
 go_enter func149,ntmps149
 go_wp2_with fail
 refine HA.out.mono ?_
 clear HA
 rintro e w1 ⟨A,c,rfl,hown,hb1⟩
 have hL:(JW 256).length=90:=by kernel_rfl
 rw [hL] at hown⊢
 obtain⟨g,cap,hAe,hg0,hg1⟩: ∃g cap,(Value.slice A 90 c)= .slice (some ⟨g,0,none⟩) 90 cap∧w.heap.size≤g∧g<w1.heap.size:=by
  obtain⟨b,cc,he,h1,h2,_⟩:=mq hown (by decide)
  exact⟨b,cc,he,h1,h2⟩
 injection hAe with hA1 hA2 hA3
 subst hA1 hA3
 have hcell: ∀(k:Nat) (r:ZR),Dj[k]?=some r→w1.cell? ⟨g,k,none⟩=some (.int .u8 (r.op:Nat)):=by
  intro k r hr
  have hu:((JW 256).map bv)[k]?=some (.int .u8 (r.op:Nat)):=by
   rw [mh,List.map_map,List.getElem?_map,hr]
   show some (bv (UInt8.ofNat r.op))=_
   have:=of_decide_eq_true (List.all_eq_true.1 t_ r (List.mem_of_getElem? hr))
   unfold bv
   rw [UInt8.toNat_ofNat',Nat.mod_eq_of_lt (by omega)]
  have:=hown.cells (g:=g) rfl k _ hu
  rwa [Addr.add_lit,Nat.zero_add] at this
 have HC:=AA hcell;have HB1:=AA hb1
 clear hcell hb1 hown hL
 go_wp2_with fail
 go_loopw [10] (fun i wr=>y9 s w1 i wr) (fun i _=>90-(intOf i).toNat)
 case atStart=>exact⟨0,Nat.zero_le _,rfl,Below.refl _ _,fun j y hj=>by omega⟩
 case round=>
  obtain⟨k,hk,rfl,hb,hne⟩:=hrel
  have hlen:Dj.length=90:=by kernel_rfl
  rw [hlen] at hk
  have HB:=AA hb;have Zo:=AA hne
  clear hb hne
  by_cases hlt:k<90
  ·have d1:decide ((k:Int)<90)=true:=decide_eq_true (by omega)
   obtain⟨r,hr⟩: ∃r,Dj[k]?=some r:=⟨_,List.getElem?_eq_getElem (by omega)⟩
   have hm:=List.mem_of_getElem? hr
   have hk0:(0:Int)≤k:=by omega
   have q0:wr.cell? ⟨g,k,none⟩=some (.int .u8 (r.op:Nat)):=(HB.out.cell (p:=⟨g,k,none⟩) hg1).trans (HC.out k r hr)
   have hop:=of_decide_eq_true (List.all_eq_true.1 t_ r hm)
   have hof:=XU r.op wr hop (HT.out wr ((HB1.out.mono OG.out).trans (HB.out.mono (Nat.le_trans OG.out HB1.out.size))))
   have uD:Eh r.op= .tuple #[.agg (opC r),.bool true]:=by unfold Eh;rw [kF r hm]
   rw [uD] at hof
   have HOF:=AA hof;have HR:=AA hr
   clear hof uD hm hr
   go_wp2_with fail
   refine HOF.out.mono ?_
   clear HOF
   rintro e w2 ⟨hb2,rfl⟩
   have HB2:=AA (HB.out.trans (hb2.mono HB.out.size))
   clear hb2
   unfold opC
   by_cases hw:r.word=s
   ·have hq:(r.word.toList==s.toList)=true:=by rw [hw];exact beq_self_eq_true _
    have hF:N_ s=some r:=kG _ Dj k r HR.out (decide_eq_true hw) (fun j y hj hy=>decide_eq_false (Zo.out j y hj hy))
    have HF:Hid (QH s= .tuple #[.int .u8 (r.op:Nat),.bool true]):=AA (by unfold QH;rw [hF])
    clear hF hw
    go_wp2_with fail
    go_ret2
    exact⟨HB1.out.trans ((HB2.out.alloc HB2.out.size _).mono HB1.out.size),by rw [HF.out];rfl⟩
   ·have hq:(r.word.toList==s.toList)=false:=by
     rw [beq_eq_false_iff_ne,ByteArray.toList_eq,ByteArray.toList_eq]
     exact fun e=>hw (by cases hx:r.word;cases hy:s;rw [hx,hy] at e;simp at e;rw [e])
    have hnx: ∀j y,j<k+1→Dj[j]?=some y→y.word≠s:=by
     intro j y hj hy
     by_cases e:j=k
     ·subst e
      rw [HR.out] at hy
      injection hy with hy
      subst hy
      exact hw
     ·exact Zo.out j y (by omega) hy
    have Ul:=AA hnx
    clear hnx hw
    go_wp2_with fail
    exact⟨⟨k+1,by rw [hlen];omega,rfl,HB2.out.alloc HB2.out.size _,Ul.out⟩,by show 90-((k:Int)+1).toNat<90-(k:Int).toNat;omega⟩
  ·have d1:decide ((k:Int)<90)=false:=decide_eq_false (by omega)
   have hF:N_ s=none:=by
    unfold N_
    rw [List.find?_eq_none]
    intro y hy
    obtain⟨j,hj,e⟩:=List.mem_iff_getElem.1 hy
    have:=Zo.out j y (by omega) (by rw [List.getElem?_eq_getElem hj,e])
    simpa using this
   have HF:Hid (QH s= .tuple #[.int .u8 0,.bool false]):=AA (by unfold QH;rw [hF])
   clear hF
   go_wp2_with fail
   go_ret2
   exact⟨HB1.out.trans (HB.out.mono HB1.out.size),by rw [HF.out];rfl⟩
end Go.Proofs.YtebgikflpgcnlaaGreatDoor
