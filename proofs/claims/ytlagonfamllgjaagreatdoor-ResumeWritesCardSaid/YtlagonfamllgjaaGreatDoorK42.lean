/- Part 42 of the proof: ModJ -/
import Derived.Laws.IdiomStrings
import Derived.Test.YtlagonfamllgjaaGreatDoorK41
namespace Go.Proofs.YtlagonfamllgjaaGreatDoor
set_option linter.unusedVariables false
set_option linter.unusedSimpArgs false
set_option maxRecDepth 100000
set_option maxHeartbeats 4000000
open Go.RowKit Tryz
section
attribute [local irreducible] Aq
theorem wB (cs:List Value) (hi base g gs:Nat) (K:Nat→Prop) (m:AP) (L:List UInt8) (w:World) (h:DJ.R w 0 hi cs m) (hhi:hi≤w.heap.size) (hK: ∀k,k<hi→K k) (hd:Hd w base g gs K m.first 0 m.types L) (hbase:base≤w.heap.size) (hin:AAr m) (hL:L.length≤300000000000)
 (htab: ∀w',Below hi w w'→Lib.TabIs prog w' "strings.asciiSpace" .u8 Lib.asciiSpaceTab):
 Calls prog 129 #[.pointer (some ⟨g,0,none⟩),.agg cs.toArray] w fun e w'=>Keep K w w'∧MX (Ii m) e (∃all:Nat,Hd w' base g gs K m.first all m.types (L++R4 m)):=by
 generalize Xk:Ii m=EE
 have HE:=AA Xk
 clear Xk
 obtain⟨v1,v2,v3,v4,v5,v6,rfl,h1,h2,h3,hf63,hm63,h4,h5,h6⟩:=Am.1 h
 obtain⟨A1,c1,rfl⟩:=AB h1
 obtain⟨A2,c2,rfl⟩:=AB h2
 obtain⟨A3,c3,rfl⟩:=AB h3
 obtain⟨A4,c4,rfl⟩:=AB h4
 obtain⟨A5,c5,rfl⟩:=AB h5
 obtain⟨A6,c6,rfl⟩:=AB h6
 have H4:=AA h4;have H5:=AA h5;have H6:=AA h6;have NM:=AA hK;have Es:=AA hin;have HTAB:=AA htab;have HD0:=AA hd
 clear h h1 h2 h3 h4 h5 h6 hK hin htab hd hm63
 go_enter func129,ntmps129
 go_wp2_with fail
 generalize hw1:w.alloc _=w1
 have hb1:Below w.heap.size w w1:=by rw [←hw1];exact(Below.refl _ _).alloc (Nat.le_refl _) _
 have hbx:AQ w1 w.heap.size 29 (Kj A1 A2 A3 A4 A5 A6 c1 c2 c3 c4 c5 c6 m):=by rw [←hw1];exact AQ.new w 29 (Kj A1 A2 A3 A4 A5 A6 c1 c2 c3 c4 c5 c6 m)
 have hdd:=HD0.out.box hb1 (by rw [←hw1];simp)
 generalize hK1:(fun k=>K k∨k=w.heap.size)=K1 at*
 have HKK:Hid ((∀k,K k→K1 k)∧K1 w.heap.size):=AA (by rw [←hK1];exact⟨fun k h=> .inl h,.inr rfl⟩)
 have HB1:Hid (Dx w w1 base g gs w.heap.size K K1 m (Kj A1 A2 A3 A4 A5 A6 c1 c2 c3 c4 c5 c6 m) 0 L):=AA ⟨Keep.DK hb1,hbx,hdd,Nat.le_trans hbase hb1.size⟩
 have hlf:m.fns.length≤2147483647:=by have:=Es.out.sz;unfold Bg at this;omega
 clear hw1 hb1 hbx hdd hK1 HD0
 have hcount:=Ki m.fns.length 128 (by omega) HB1.out.hd (by omega) HB1.out.hb
 refine hcount.mono ?_
 clear hcount
 rintro e w2 ⟨hk,hcase⟩
 rcases hcase with⟨h0,rfl,hd⟩ | ⟨h0,rfl⟩
 case inr=>
  have H0:=AA h0;clear h0
  have Iu:=AA (HB1.out.kp.trans (hk.mono HKK.out.1))
  go_wp2_with fail
  have hX:EE=Ae (decide (m.fns.length≤128)) 20:=by
   rw [←HE.out]
   have:Ja m=Ae (decide (m.fns.length≤128)) 20:=by unfold Ja;rw [Br H0.out]
   unfold Ii
   rw [Br (by rw [this];exact H0.out),this]
  exact⟨rfl,Iu.out,.inr ⟨by rw [hX];exact H0.out,by rw [hX]⟩⟩
 have gJ:=AA h0
 have HB2:=AA (HB1.out.to (all':=0) hk hd HKK.out.1 HKK.out.2)
 clear h0 hk hd HB1
 have hx5:=HB2.out.box.q 5 rfl
 go_upto_block 0 with fail
 go_cut [] (fun wx=>Dx w wx base g gs w.heap.size K K1 m (Kj A1 A2 A3 A4 A5 A6 c1 c2 c3 c4 c5 c6 m) (FJ m m.fns.length) (L++(enc m.fns.length++m.fns.flatMap Uv))∧Aa m.fns.length (UL m)=0)
 case first=>
  clear hx5
  go_wp2_with fail
  go_loopw [22] (fun i wr=> ∃k:Nat,k≤m.fns.length∧i= .int .i64 k∧Dx w wr base g gs w.heap.size K K1 m (Kj A1 A2 A3 A4 A5 A6 c1 c2 c3 c4 c5 c6 m) (FJ m k) (L++(enc m.fns.length++(m.fns.take k).flatMap Uv))∧Aa k (UL m)=0)
   (fun i _=>m.fns.length-(intOf i).toNat)
  case atStart=>exact⟨0,Nat.zero_le _,rfl,by simpa [FJ,BG] using HB2.out,rfl⟩
  case round=>
   obtain⟨k,hk,rfl,hbr,her⟩:=hrel
   have Nj:=AA hbr;have NP:=AA her
   clear hbr her
   by_cases hltk:k<m.fns.length
   ·obtain⟨f,hx⟩: ∃f,m.fns[k]?=some f:=⟨_,List.getElem?_eq_getElem hltk⟩
    obtain⟨b,o,TJ,Ko,rfl,_,Oe,hd0,hd1,hd2,AEp,hloc,hcode⟩:=Eu H4.out hx
    have hbw:b<w.heap.size:=Nat.lt_of_lt_of_le Oe hhi
    have hc0':=(Nj.out.kp.cell (p:=⟨b,o+k*3,none⟩) hbw (NM.out b Oe)).trans hd0
    have hc1':=(Nj.out.kp.cell (p:=⟨b,o+k*3+1,none⟩) hbw (NM.out b Oe)).trans hd1
    have hc2':=(Nj.out.kp.cell (p:=⟨b,o+k*3+2,none⟩) hbw (NM.out b Oe)).trans hd2
    have oI:=AA hcode
    have Hx:=AA hx
    have hk0:(0:Int)≤k:=by omega
    have Sg:Hid ((L++(enc m.fns.length++(m.fns.take k).flatMap Uv)).length≤390194315000):=AA (by
     have h1:=V5 Es.out.num Es.out.sz m.fns.length k hlf
     have:=Es.out.sz
     rw [List.length_append];omega)
    have hz0:=Nj.out.box.q 0 rfl
    have hzl:w.heap.size<wr.heap.size:=Nj.out.box.lt
    clear hx hcode hd0 hd1 hd2
    go_wp2_with fail
    generalize hw3:wr.alloc _=w3
    have hb3:Below wr.heap.size wr w3:=by rw [←hw3];exact(Below.refl _ _).alloc (Nat.le_refl _) _
    have HB3:=AA (Nj.out.AAs hb3 (by rw [←hw3];simp))
    have Nt:Hid (AQ w3 wr.heap.size 96 (fnC TJ Ko f)):=by rw [←hw3];exact AA (AQ.new wr 96 (fnC TJ Ko f))
    generalize hK2:(fun j=>K1 j∨j=wr.heap.size)=K2 at HB3
    have EO:Hid ((∀j,K1 j→K2 j)∧K2 wr.heap.size∧(∀j,K j→K2 j)∧K2 w.heap.size):=AA (by rw [←hK2];exact⟨fun j h=> .inl h,.inr rfl,fun j h=> .inl (HKK.out.1 j h),.inl HKK.out.2⟩)
    generalize Qs:L++(enc m.fns.length++(m.fns.take k).flatMap Uv)=LL at*
    have RF:=AA Qs
    clear hw3 hb3 hK2 hc0' hc1' hc2' Qs hz0
    have hci:=SI f.t m.types.length AEp.2 HB3.out.hd (by have:=Sg.out;omega) HB3.out.hb
    generalize oh:Ae (decide (0≤f.t∧f.t<m.types.length)) 30=v30 at hci
    have HV:=AA oh
    clear oh
    refine hci.mono ?_
    clear hci
    rintro e w4 ⟨hk4,hcase⟩
    rcases hcase with⟨dR,rfl,hd4⟩ | ⟨dR,rfl⟩
    case inr=>
     have wF:=AA dR
     have UR:=AA (HB3.out.kp.trans (hk4.mono EO.out.2.2.1))
     have hX:Hid (EE=v30):=AA (by rw [←HE.out];exact Pf gJ.out NP.out Hx.out dR (by rw [QV Hx.out,HV.out,Br dR]))
     clear dR hk4
     go_wp2_with fail
     exact⟨rfl,UR.out,.inr ⟨by rw [hX.out];exact wF.out,by rw [hX.out]⟩⟩
    have wF:Hid (Ae (decide (0≤f.t∧f.t<m.types.length)) 30=0):=AA (by rw [HV.out];exact dR)
    have C9:=AA (HB3.out.to hk4 hd4 EO.out.2.2.1 EO.out.2.2.2)
    have RD:=AA (Nt.out.keep hk4 EO.out.2.1)
    have hft:=of_decide_eq_true (Da (by decide) wF.out)
    obtain⟨t,ht⟩:=Int.eq_ofNat_of_zero_le hft.1
    obtain⟨x,hxt⟩: ∃x,m.types[t]?=some x:=⟨_,List.getElem?_eq_getElem (by omega)⟩
    have Hxt:Hid (m.types[t]?=some x∧KH m f.t=x.p.size):=AA ⟨hxt,by unfold KH;rw [ht];simp [hxt]⟩
    have hp8:=Es.out.par x (List.mem_of_getElem? hxt)
    have hroom:=sQ t x (C9.out.Ee (show Below w4.heap.size w4 w4.drew from⟨rfl,rfl,rfl,Nat.le_refl _,fun _ _=>rfl⟩)).hd hxt (by omega)
    rw [←ht] at hroom
    have HRM:=AA (hroom.mono fun e w' h=>(⟨h.2,h.1⟩:e=_∧w'=w4.drew))
    have iV:Hid ((enc f.t.toNat).length≤10):=AA (JF AEp.2)
    have hm0:=RD.out.q 0 rfl
    have hm1:=RD.out.q 1 rfl
    clear dR hk4 hd4 hft ht hxt hroom HB3 Nt
    go_wp2_with fail
    go_still_tail 11,(by kernel_rfl)
    repeat still_step
    still_call HRM.out
    repeat still_step
    try refine wpStill_nil ?_
    change wpList _ _ _ _ _ w4.drew
    have AEq:=AA (C9.out.Ee (show Below w4.heap.size w4 w4.drew from⟨rfl,rfl,rfl,Nat.le_refl _,fun _ _=>rfl⟩))
    have AA3:Hid (AQ w4.drew wr.heap.size 96 (fnC TJ Ko f)):=AA RD.out
    clear HRM C9 RD hm0 hm1
    generalize w4.drew=w5 at*
    go_wp2_with fail
    refine(OJ _ f.loc (64-x.p.size) hloc _).mono ?_
    rintro e w6 ⟨hb6,hcase⟩
    have FQ:=AA (AEq.out.Ee hb6);have gI:=AA (AA3.out.below hb6 AA3.out.lt)
    clear hb6 AEq AA3
    rw [←Hxt.out.2] at hcase
    rcases hcase with⟨h8,rfl⟩ | ⟨h8,rfl⟩
    case inr=>
     have H8:=AA h8
     have hX:Hid (EE=CK f.loc (64-KH m f.t)):=AA (by rw [←HE.out];exact Pf gJ.out NP.out Hx.out h8 (by rw [QV Hx.out,AY wF.out,Br h8]))
     clear h8
     go_wp2_with fail
     exact⟨rfl,FQ.out.kp,.inr ⟨by rw [hX.out];exact H8.out,by rw [hX.out]⟩⟩
    have H8:=AA h8;clear h8
    have hm1:=gI.out.q 1 rfl
    have hlocsz:f.loc.size≤64:=by have:=(FP H8.out).1;omega
    have Im:=AA (Gf (s:=f.loc) (by omega))
    go_wp2_with fail
    have hct:=O5 f.loc (by omega) FQ.out.hd (by have:=Sg.out;have:=iV.out;rw [List.length_append];omega) FQ.out.hb
    refine hct.mono ?_
    clear hct
    rintro e w7 ⟨rfl,Xy,hd7⟩
    have UA:=AA (FQ.out.to Xy hd7 EO.out.2.2.1 EO.out.2.2.2);have zy:=AA (gI.out.keep Xy EO.out.2.1)
    have hm2:=zy.out.q 2 rfl
    clear Xy hd7 FQ gI hm1
    go_wp2_with fail
    go_still_tail 6,(by kernel_rfl)
    repeat still_step
    try refine wpStill_nil ?_
    change wpList _ _ _ _ _ w7.drew
    have wG:=AA (UA.out.Ee (show Below w7.heap.size w7 w7.drew from⟨rfl,rfl,rfl,Nat.le_refl _,fun _ _=>rfl⟩))
    have AEr:Hid (AQ w7.drew wr.heap.size 96 (fnC TJ Ko f)):=AA zy.out
    clear UA zy hm2
    generalize w7.drew=w8 at*
    have hcl:f.code.length≤2147483647:=by have h1:=C_ JB m.fns f (List.mem_of_getElem? Hx.out);have h2:=Es.out.sz;have h3:f.code.length≤JB f:=(by unfold JB LG;omega);unfold Bg at h2;omega
    have hcc:=sP f.code.length hcl (oQ Es.out.sz k) wG.out.hd
    go_wp2_with fail
    refine hcc.mono ?_
    clear hcc
    rintro e w9 ⟨hk9,hcase⟩
    rcases hcase with⟨h20,rfl,hd9⟩ | ⟨h20,rfl⟩
    case inr=>
     have H20:=AA h20
     have HK9:=AA (wG.out.kp.trans (hk9.mono EO.out.2.2.1))
     have hX:Hid (EE=Cq (Ae (decide (f.code.length≤2048)) 20) (Ae (decide (FJ m k+f.code.length≤16384)) 20)):=AA (by
      rw [←HE.out]
      refine Pf gJ.out NP.out Hx.out h20 ?_
      rw [QV Hx.out,AY wF.out,AY H8.out,Lg Hx.out,←EM,Br h20])
     clear h20 hk9
     go_wp2_with fail
     exact⟨rfl,HK9.out,.inr ⟨by rw [hX.out];exact H20.out,by rw [hX.out]⟩⟩
    have H20:=AA h20
    have om:=AA (wG.out.to hk9 hd9 EO.out.2.2.1 EO.out.2.2.2);have Hn9:=AA (AEr.out.keep hk9 EO.out.2.1)
    have hm2:=Hn9.out.q 2 rfl
    clear h20 hk9 hd9 wG AEr
    go_wp2_with fail
    have hcn:=NI f.code.length (by omega) om.out.hd (by have:=Sg.out;have:=iV.out;have:=Im.out;simp only [List.length_append] at*;omega) om.out.hb
    refine hcn.mono ?_
    clear hcn
    rintro e wa ⟨rfl,hka,hda⟩
    have HBa:=AA (om.out.to hka hda EO.out.2.2.1 EO.out.2.2.2);have Hna:=AA (Hn9.out.keep hka EO.out.2.1)
    have Uu:=Hna.out.q 2 rfl
    clear hka hda om Hn9 hm2
    go_upto_block 2 with fail
    generalize hLF:LL++enc f.t.toNat++Fp f.loc++enc f.code.length=LF at*
    have HLF:=AA hLF
    have AEt:Hid (∀j,(LF++(f.code.take j).flatMap G_).length≤500000000000):=AA (fun j=>by
     have h1:=bY Es.out.num Es.out.sz (List.mem_of_getElem? Hx.out) j
     have h2:=C_ JB m.fns f (List.mem_of_getElem? Hx.out)
     have h3:=Es.out.sz
     have h4:=Sg.out
     rw [←hLF]
     unfold Bg at h3
     simp only [List.length_append] at*
     omega)
    clear hLF
    go_wp2_with fail
    clear Uu Nj
    generalize wr.heap.size=fb at*
    clear wr
    go_loopw [64] (fun i wi=> ∃j:Nat,j≤f.code.length∧i= .int .i64 j∧Dx w wi base g gs w.heap.size K K2 m (Kj A1 A2 A3 (some ⟨b,o,none⟩) A5 A6 c1 c2 c3 c4 c5 c6 m) (FJ m k+f.code.length) (LF++(f.code.take j).flatMap G_)∧Aa j (KX f)=0)
     (fun i _=>f.code.length-(intOf i).toNat)
    case atStart=>exact⟨0,Nat.zero_le _,rfl,by simpa using HBa.out,rfl⟩
    case round=>
     obtain⟨j,hj,rfl,hbi,hei⟩:=hrel
     have HBi:=AA hbi;have HEi:=AA hei
     clear hbi hei
     by_cases AEu:j<f.code.length
     ·obtain⟨y,hy⟩: ∃y,f.code[j]?=some y:=⟨_,List.getElem?_eq_getElem AEu⟩
      obtain⟨bi,oi,hAc,_,wH,cs,hcs,tH⟩:=DC oI.out hy
      subst hAc
      have hri2:=tH
      obtain⟨Y_,rfl,ha63,hl⟩:=DL.1 hri2
      obtain⟨Ga,GJ,rfl⟩:=AB hl
      have hbw:bi<w.heap.size:=Nat.lt_of_lt_of_le wH hhi
      have hi0:wr.cell? ⟨bi,oi+j*3,none⟩=some (.int .u8 (y.op.toNat:Int)):=(HBi.out.kp.cell (p:=⟨bi,oi+j*3,none⟩) hbw (NM.out bi wH)).trans (hcs 0 _ rfl)
      have hi1:wr.cell? ⟨bi,oi+j*3+1,none⟩=some (.int .i64 y.a):=(HBi.out.kp.cell (p:=⟨bi,oi+j*3+1,none⟩) hbw (NM.out bi wH)).trans (hcs 1 _ rfl)
      have hi2:wr.cell? ⟨bi,oi+j*3+2,none⟩=some (.slice Ga y.l.length GJ):=(HBi.out.kp.cell (p:=⟨bi,oi+j*3+2,none⟩) hbw (NM.out bi wH)).trans (hcs 2 _ rfl)
      have hj0:(0:Int)≤j:=by omega
      have Hri:=AA tH;have Hy:=AA hy
      clear tH hcs hl hy hbw ha63
      go_wp2_with fail
      generalize hwi:wr.alloc _=wi
      have hbi:Below wr.heap.size wr wi:=by rw [←hwi];exact(Below.refl _ _).alloc (Nat.le_refl _) _
      have HBj:=AA (HBi.out.Ee hbi)
      clear hwi hbi hi0 hi1 hi2 HBi
      have hen:=WA _ hi y wi (Rd.C8 Hri.out HBj.out.kp hhi (fun j _ h=>NM.out j h)) (Nat.le_trans hhi HBj.out.kp.size) (HTAB.out _ (HBj.out.kp.below hhi NM.out))
      by_cases h0:Ar y=0
      case neg=>
       generalize hci:Ar y=ci at hen h0
       have HCI:=AA hci
       clear hci
       refine hen.mono ?_
       clear hen
       rintro e wj ⟨hbj,Aj,cj,rfl,hoj⟩
       have HBk:=AA (HBj.out.Ee hbj)
       have hX:Hid (EE=ci):=AA (by
        have h1:=AV H20.out
        rw [←HE.out]
        refine Pf gJ.out NP.out Hx.out h0 ?_
        rw [QV Hx.out,AY wF.out,AY H8.out,AY h1.1,Lg Hx.out,AY h1.2,Dc HEi.out (by rw [Ph Hy.out,HCI.out];exact h0) _ AEu,Ph Hy.out,HCI.out])
       have hb:(ci==0)=false:=by simpa using h0
       have Hc0:=AA h0
       clear hbj hoj HBj h0
       go_wp2_with fail
       refine(DT ci 0 _).mono ?_
       rintro e wk ⟨rfl,rfl⟩
       go_wp2_with fail
       exact⟨rfl,HBk.out.kp,.inr ⟨by rw [hX.out];exact Hc0.out,by rw [hX.out]⟩⟩
      have Hc0:=AA h0
      have hio:CQ y=G_ y:=by unfold CQ;rw [if_pos h0]
      rw [hio,h0] at hen
      refine hen.mono ?_
      clear hen h0 hio
      rintro e wj ⟨hbj,Aj,cj,rfl,hoj⟩
      have HBk:=AA (HBj.out.Ee hbj)
      have HRow:=AA (Row.own hoj)
      clear hbj hoj HBj
      go_wp2_with fail
      refine(Dp 0 0 _).mono ?_
      rintro e wk ⟨rfl,rfl⟩
      have hd:=HBk.out.hd
      obtain⟨T,d,s1,⟨A,c,s2⟩,s3,s4,s5⟩:=hd
      generalize hLJ:LF++(f.code.take j).flatMap G_=LJ at*
      have HLJ:=AA hLJ
      have AEw:Hid (LJ.length≤500000000000∧LJ.length+(G_ y).length≤500000000000):=AA ⟨by rw [←hLJ];exact AEt.out j,by have:=AEt.out (j+1);rw [EN Hy.out,←List.append_assoc,hLJ,List.length_append] at this;exact this⟩
      have hg2:=s2.blk.q 2 rfl
      have hgf:=s2.blk.frozen 2
      have hgl:=s2.blk.lt
      have hbk:base≤wj.heap.size:=HBk.out.hb
      have qj:=AA s1;have ZC:=AA s2;have yG:=AA s4;have tC:=AA s5
      obtain⟨i0,hi0,hz,hs',hby⟩:=info_parts EJ
      clear hLJ s1 s2 s4 s5
      go_wp2_with (at_builtin;refine MV _ rfl (.tmp 81) (.tmp 82) 40 rfl base 5 i0 _ 1 underlying40 hi0 hz hs' hby rfl _ LJ.length (LJ.map bv) rfl (by exact ZC.out.own) _ Aj (G_ y).length cj ((G_ y).map bv) (Ym Hc0.out) rfl (by rw [List.length_map,Nat.mul_one]) (by exact HRow.out) (Ew _) (by have:=AEw.out;unfold maxLen;omega) (by have:=AEw.out;omega) hbk ?_;intro A8 c8 w8 h2 h3 h4;have HP:=AA (ZC.out.put rfl h3 h2 h4);have Nk:=Av h3 ZC.out.blk (fun e=>(ZC.out.apart g e).2 rfl);have hf8:=Nk.frozen 2;have hc8:=Nk.cell 2;have hl8:=Nk.lt;clear h2 h3 h4 Nk)
      all_goals
       have HH:=AA (Hd.of qj.out s3 yG.out tC.out HP.out.1 HP.out.2)
       have HN:Hid (Aa (j+1) (KX f)=0):=AA (Cc HEi.out (by rw [Ph Hy.out];exact Hc0.out))
       have HF:Hid (LJ++G_ y=LF++(f.code.take (j+1)).flatMap G_):=AA (by rw [EN Hy.out,←HLJ.out,List.append_assoc])
       refine⟨⟨j+1,by omega,by go_num,?_,HN.out⟩,by simp [intOf];omega⟩
       rw [←HF.out]
       exact HBk.out.to HH.out.1 HH.out.2 EO.out.2.2.1 EO.out.2.2.2
     ·obtain rfl:j=f.code.length:=by omega
      have HD:Hid (Dx w wr base g gs w.heap.size K K1 m (Kj A1 A2 A3 (some ⟨b,o,none⟩) A5 A6 c1 c2 c3 c4 c5 c6 m) (FJ m (k+1)) (L++(enc m.fns.length++(m.fns.take (k+1)).flatMap Uv))):=AA (by
       have h:=HBi.out.less EO.out.1
       rw [List.take_length,←HLF.out,←RF.out,←Lg Hx.out] at h
       rw [EN Hx.out]
       rw [show Uv f=enc f.t.toNat++Fp f.loc++enc f.code.length++f.code.flatMap G_ from rfl]
       simpa only [List.append_assoc] using h)
      have HN:Hid (Aa (k+1) (UL m)=0):=AA (Cc NP.out (by
       have:=AV H20.out
       rw [QV Hx.out,AY wF.out,AY H8.out,AY this.1,Lg Hx.out,AY this.2,HEi.out]))
      go_wp2_with fail
      exact⟨⟨k+1,by omega,by go_num,HD.out,HN.out⟩,by simp [intOf];omega⟩
   ·obtain rfl:k=m.fns.length:=by omega
    go_wp2_with fail
    go_meet
    refine⟨?_,NP.out⟩
    have:=Nj.out
    rw [List.take_length] at this
    exact this
 case rest=>
  obtain⟨hbc,Zt⟩:=hcut
  have jk:Hid (Ja m=0):=AA (by unfold Ja;rw [AY gJ.out];exact Zt)
  have AA5:Hid ((L++(enc m.fns.length++m.fns.flatMap Uv)).length≤390194315000):=AA (by
   have h1:=V5 Es.out.num Es.out.sz m.fns.length m.fns.length hlf
   rw [List.take_length] at h1
   have:=Es.out.sz
   rw [List.length_append];omega)
  generalize hL1:L++(enc m.fns.length++m.fns.flatMap Uv)=L1 at*
  have rA:=AA hL1
  have U6:=AA hbc
  have hx6:=hbc.box.q 6 rfl
  have hld:m.dat.length≤2147483647:=by have:=Es.out.sz;unfold Bg at this;omega
  generalize FJ m m.fns.length=Yn at*
  clear hbc Zt hL1 HB2 hx5
  go_wp2_with fail
  have hcount:=Ki m.dat.length 64 (by omega) U6.out.hd (by have:=AA5.out;omega) U6.out.hb
  refine hcount.mono ?_
  clear hcount
  rintro e wd ⟨hk,hcase⟩
  rcases hcase with⟨h0,rfl,hd⟩ | ⟨h0,rfl⟩
  case inr=>
   have H0:=AA h0;clear h0
   have Iu:=AA (U6.out.kp.trans (hk.mono HKK.out.1))
   go_wp2_with fail
   have hX:EE=Ae (decide (m.dat.length≤64)) 20:=by rw [←HE.out];exact aO jk.out H0.out
   exact⟨rfl,Iu.out,.inr ⟨by rw [hX];exact H0.out,by rw [hX]⟩⟩
  have HD0:=AA h0
  have HBd:=AA (U6.out.to (all':=Yn) hk hd HKK.out.1 HKK.out.2)
  have hx6:=HBd.out.box.q 6 rfl
  clear h0 hk hd U6
  go_upto_block 4 with fail
  go_cut [] (fun wx=>Dx w wx base g gs w.heap.size K K1 m (Kj A1 A2 A3 A4 A5 A6 c1 c2 c3 c4 c5 c6 m) Yn (L1++(enc m.dat.length++m.dat.flatMap Jb))∧Aa m.dat.length (LQ m)=0)
  case first=>
   clear hx6
   go_wp2_with fail
   go_loopw [96] (fun i wr=> ∃k:Nat,k≤m.dat.length∧i= .int .i64 k∧Dx w wr base g gs w.heap.size K K1 m (Kj A1 A2 A3 A4 A5 A6 c1 c2 c3 c4 c5 c6 m) Yn (L1++(enc m.dat.length++(m.dat.take k).flatMap Jb))∧Aa k (LQ m)=0)
    (fun i _=>m.dat.length-(intOf i).toNat)
   case atStart=>exact⟨0,Nat.zero_le _,rfl,by simpa using HBd.out,rfl⟩
   case round=>
    obtain⟨k,hk,rfl,hbr,her⟩:=hrel
    have Nj:=AA hbr;have NP:=AA her
    clear hbr her
    by_cases hltk:k<m.dat.length
    ·obtain⟨d,hx⟩: ∃d,m.dat[k]?=some d:=⟨_,List.getElem?_eq_getElem hltk⟩
     have hcap:=aR H5.out
     have htk:=dQ H5.out (k:=k) (by omega)
     obtain⟨b,o,Nv,Ni,rfl,_,Oe,hd0,hd1,hat,hbb⟩:=IY H5.out hx
     have hbw:b<w.heap.size:=Nat.lt_of_lt_of_le Oe hhi
     have hc0':=(Nj.out.kp.cell (p:=⟨b,o+k*2,none⟩) hbw (NM.out b Oe)).trans hd0
     have hc1':=(Nj.out.kp.cell (p:=⟨b,o+k*2+1,none⟩) hbw (NM.out b Oe)).trans hd1
     have HBB:=AA hbb;have HTK:=AA htk
     have Hx:=AA hx
     have hk0:(0:Int)≤k:=by omega
     have hkc:k≤c5:=by omega
     have Sg:Hid ((L1++(enc m.dat.length++(m.dat.take k).flatMap Jb)).length≤490194315000):=AA (by
      have h1:=V6 Es.out.num Es.out.sz m.dat.length k hld
      have:=Es.out.sz
      have:=AA5.out
      rw [List.length_append];omega)
     have Hbl:Hid (d.b.length≤2147483647):=AA (by
      have h1:=C_ (fun d:Gh=>d.b.length) m.dat d (List.mem_of_getElem? hx)
      have h2:=Es.out.sz
      unfold Bg at h2;omega)
     have hz3:=Nj.out.box.q 6 rfl
     have hzl:w.heap.size<wr.heap.size:=Nj.out.box.lt
     clear hx hd0 hd1 hbb htk hcap
     go_upto_region 22 with fail
     generalize hw3:wr.alloc _=w3
     have hb3:Below wr.heap.size wr w3:=by rw [←hw3];exact(Below.refl _ _).alloc (Nat.le_refl _) _
     have HB3:=AA (Nj.out.AAs hb3 (by rw [←hw3];simp))
     have Nt:Hid (AQ w3 wr.heap.size 99 [.int .i64 d.at_,.slice Nv d.b.length Ni]):=by rw [←hw3];exact AA (AQ.new wr 99 [.int .i64 d.at_,.slice Nv d.b.length Ni])
     generalize hK2:(fun j=>K1 j∨j=wr.heap.size)=K2 at HB3
     have EO:Hid ((∀j,K1 j→K2 j)∧K2 wr.heap.size∧(∀j,K j→K2 j)∧K2 w.heap.size):=AA (by rw [←hK2];exact⟨fun j h=> .inl h,.inr rfl,fun j h=> .inl (HKK.out.1 j h),.inl HKK.out.2⟩)
     generalize Qs:L1++(enc m.dat.length++(m.dat.take k).flatMap Jb)=LL at*
     have RF:=AA Qs
     clear hw3 hb3 hK2 hc0' hc1' Qs hz3
     have HST:=AA (fun W (hb:Below w3.heap.size w3 W)=>fQ d.at_ (some ⟨b,o,none⟩) k c5 0 hi (m.dat.take k) (HB3.out.Ee hb).hd (Rd.C8 HTK.out (HB3.out.kp.trans (Keep.DK hb)) hhi (fun j _ h=>NM.out j h)) Es.out.f0 Es.out.f1 hat (oP Es.out.f0 Es.out.f1 NP.out hk) (by have:=Da (by decide) HD0.out;have:=of_decide_eq_true this;omega))
     have hm0:=Nt.out.q 0 rfl
     have gH:=HB3.out.box.q 6 rfl
     go_still_tail 9,(by kernel_rfl)
     repeat still_step
     try refine wpStill_nil ?_
     change wpList _ _ _ _ _ w3.drew
     have hbd:Below w3.heap.size w3 w3.drew:=⟨rfl,rfl,rfl,Nat.le_refl _,fun _ _=>rfl⟩
     have C9:=AA (HB3.out.Ee hbd)
     have RD:Hid (AQ w3.drew wr.heap.size 99 [.int .i64 d.at_,.slice Nv d.b.length Ni]):=AA Nt.out
     have hst:=HST.out w3.drew hbd
     clear HST HB3 Nt hm0 gH hbd
     generalize w3.drew=w4 at*
     go_wp2_with fail
     refine hst.mono ?_
     clear hst
     rintro e w5 ⟨hb5,hcase⟩
     change Ends (stE m k d) 0 e at hcase
     have D8:=AA (C9.out.Ee hb5);have Qr:=AA (RD.out.below hb5 RD.out.lt)
     clear hb5 C9 RD
     rcases hcase with⟨h0,rfl⟩ | ⟨h0,rfl⟩
     case inr=>
      have hX:Hid (EE=stE m k d):=AA (by rw [←HE.out];exact QW jk.out HD0.out NP.out Hx.out h0 (by rw [Pg Hx.out,Br h0]))
      have HS:=AA h0;clear h0
      go_wp2_with fail
      exact⟨rfl,D8.out.kp,.inr ⟨by rw [hX.out];exact HS.out,by rw [hX.out]⟩⟩
     have HS:=AA h0;clear h0
     have AEx:=of_decide_eq_true (Da (by decide) (AV HS.out).1)
     obtain⟨n,hn⟩:=Int.eq_ofNat_of_zero_le AEx.1
     have hm0:=Qr.out.q 0 rfl
     have Hnn:Hid (d.at_=(n:Int)∧n≤262144):=AA ⟨hn,by have:=Es.out.f1;omega⟩
     have hcn:=NI n (by have:=Hnn.out.2;omega) D8.out.hd (by have:=Sg.out;omega) D8.out.hb
     rw [←hn] at hcn
     have hfa: -9223372036854775808≤m.first*4096∧m.first*4096≤262144∧0≤d.at_∧d.at_≤m.first*4096:=by have:=Es.out.f0;have:=Es.out.f1;omega
     have Hfa:=AA hfa
     clear hn AEx hfa
     go_wp2_with fail
     refine hcn.mono ?_
     clear hcn
     rintro e w6 ⟨rfl,T_,hd6⟩
     have FQ:=AA (D8.out.to T_ hd6 EO.out.2.2.1 EO.out.2.2.2);have gI:=AA (Qr.out.keep T_ EO.out.2.1)
     have hm1:=gI.out.q 1 rfl
     have hm0:=gI.out.q 0 rfl
     have hz3:=FQ.out.box.q 3 rfl
     have hfa:=Hfa.out
     have hwm:IntKind.i64.wrap (m.first*4096)=m.first*4096:=by rw [IntKind.wrap_i64];omega
     have hws:IntKind.i64.wrap (m.first*4096-d.at_)=m.first*4096-d.at_:=by rw [IntKind.wrap_i64];omega
     clear T_ hd6 D8 Qr hfa
     go_wp2_with fail
     refine(FD _ 13 0 (by decide) _).mono ?_
     rintro e w7 ⟨rfl,hcase⟩
     rcases hcase with⟨h0,rfl⟩ | ⟨h0,rfl⟩
     case inr=>
      have H13:=AA h0
      have hX:Hid (EE=Ae (decide ((d.b.length:Int)≤m.first*4096-d.at_)) 13):=AA (by rw [←HE.out];exact QW jk.out HD0.out NP.out Hx.out h0 (by rw [Pg Hx.out,AY HS.out,Br h0]))
      clear h0
      go_wp2_with fail
      exact⟨rfl,FQ.out.kp,.inr ⟨by rw [hX.out];exact H13.out,by rw [hX.out]⟩⟩
     have H13:=AA h0;clear h0
     go_wp2_with fail
     refine(FD _ 17 0 (by decide) _).mono ?_
     rintro e w7 ⟨rfl,hcase⟩
     rcases hcase with⟨h0,rfl⟩ | ⟨h0,rfl⟩
     case inr=>
      have H17:=AA h0
      have hX:Hid (EE=Ae (decide (0<d.b.length)) 17):=AA (by rw [←HE.out];exact QW jk.out HD0.out NP.out Hx.out h0 (by rw [Pg Hx.out,AY HS.out,AY H13.out]))
      clear h0
      go_wp2_with fail
      exact⟨rfl,FQ.out.kp,.inr ⟨by rw [hX.out];exact H17.out,by rw [hX.out]⟩⟩
     have H17:=AA h0
     have hpos:=of_decide_eq_true (Da (by decide) h0)
     clear h0
     obtain⟨bb,ob,rfl,AA6,hbc⟩:=(Rd.GV HBB.out).2 (by rw [List.length_map];exact hpos)
     have AEy:=run_convert_bytes_back (P:=prog) w6 40 9 5 ⟨bb,ob,none⟩ Ni d.b underlying40 underlying5 underlying9 (fun j hj=>by
      rw [Addr.add_lit,(FQ.out.kp.cell (p:=⟨bb,ob+j,none⟩) (Nat.lt_of_lt_of_le AA6 hhi) (NM.out bb AA6))]
      exact hbc j _ (by rw [List.getElem?_map,List.getElem?_eq_getElem hj];rfl))
     clear hpos hbc AA6 hws hwm
     go_wp2_with fail
     have hct:=O5 ⟨d.b.toArray⟩ (by have:=Hbl.out;show d.b.toArray.size≤_;simp;omega) FQ.out.hd (by have:=Sg.out;have:=AU n (by have:=Hnn.out.2;omega);rw [List.length_append];omega) FQ.out.hb
     refine hct.mono ?_
     clear hct AEy
     rintro e w8 ⟨rfl,hk8,hd8⟩
     have HN:Hid (Aa (k+1) (LQ m)=0):=AA (Cc NP.out (by rw [Pg Hx.out,AY HS.out,AY H13.out];exact H17.out))
     have Xz:Hid (Dx w w8 base g gs w.heap.size K K1 m (Kj A1 A2 A3 A4 (some ⟨b,o,none⟩) A6 c1 c2 c3 c4 c5 c6 m) Yn (L1++(enc m.dat.length++(m.dat.take (k+1)).flatMap Jb))):=AA (by
      have h:=(FQ.out.to hk8 hd8 EO.out.2.2.1 EO.out.2.2.2).less EO.out.1
      have he:LL++enc n++Fp ⟨d.b.toArray⟩=L1++(enc m.dat.length++(m.dat.take (k+1)).flatMap Jb):=by
       rw [EN Hx.out,←RF.out]
       unfold Jb Fp
       rw [Hnn.out.1]
       show _=_
       simp only [List.append_assoc,Int.toNat_natCast]
       rfl
      rw [he] at h
      exact h)
     clear hk8 hd8 FQ gI hm0 hm1 hz3
     go_wp2_with fail
     exact⟨⟨k+1,by omega,by go_num,Xz.out,HN.out⟩,by simp [intOf];omega⟩
    ·obtain rfl:k=m.dat.length:=by omega
     go_wp2_with fail
     go_meet
     refine⟨?_,NP.out⟩
     have:=Nj.out
     rw [List.take_length] at this
     exact this
  case rest=>
   obtain⟨hbc,Zt⟩:=hcut
   have yx:Hid (F5 m=0):=AA (by unfold F5;rw [AY HD0.out];exact Zt)
   have AEz:Hid ((L1++(enc m.dat.length++m.dat.flatMap Jb)).length≤490194315000):=AA (by
    have h1:=V6 Es.out.num Es.out.sz m.dat.length m.dat.length hld
    rw [List.take_length] at h1
    have:=Es.out.sz
    have:=AA5.out
    rw [List.length_append];omega)
   generalize hL2:L1++(enc m.dat.length++m.dat.flatMap Jb)=L2 at*
   have HL2:=AA hL2
   have U6:=AA hbc
   have hx7:=hbc.box.q 7 rfl
   have hle:m.Au.length≤2147483647:=by have:=Es.out.sz;unfold Bg at this;omega
   clear hbc Zt hL2 HBd hx6
   go_wp2_with fail
   have hcount:=Ki m.Au.length 64 (by omega) U6.out.hd (by have:=AEz.out;omega) U6.out.hb
   refine hcount.mono ?_
   clear hcount
   rintro e wd ⟨hk,hcase⟩
   rcases hcase with⟨h0,rfl,hd⟩ | ⟨h0,rfl⟩
   case inr=>
    have H0:=AA h0;clear h0
    have Iu:=AA (U6.out.kp.trans (hk.mono HKK.out.1))
    go_wp2_with fail
    have hX:EE=Ae (decide (m.Au.length≤64)) 20:=by rw [←HE.out];exact aP jk.out yx.out H0.out
    exact⟨rfl,Iu.out,.inr ⟨by rw [hX];exact H0.out,by rw [hX]⟩⟩
   have HX0:=AA h0
   have HBd:=AA (U6.out.to (all':=Yn) hk hd HKK.out.1 HKK.out.2)
   have hx7:=HBd.out.box.q 7 rfl
   clear h0 hk hd U6
   go_wp2_with fail
   go_loopw [145] (fun i wr=> ∃k:Nat,k≤m.Au.length∧i= .int .i64 k∧Dx w wr base g gs w.heap.size K K1 m (Kj A1 A2 A3 A4 A5 A6 c1 c2 c3 c4 c5 c6 m) Yn (L2++(enc m.Au.length++(m.Au.take k).flatMap KJ))∧Aa k (P6 m)=0)
    (fun i _=>m.Au.length-(intOf i).toNat)
   case atStart=>exact⟨0,Nat.zero_le _,rfl,by simpa using HBd.out,rfl⟩
   case round=>
    obtain⟨k,hk,rfl,hbr,her⟩:=hrel
    have Nj:=AA hbr;have NP:=AA her
    clear hbr her
    by_cases hltk:k<m.Au.length
    ·obtain⟨x,hx⟩: ∃x,m.Au[k]?=some x:=⟨_,List.getElem?_eq_getElem hltk⟩
     have hcap:=aR H6.out
     have htk:=dQ H6.out (k:=k) (by omega)
     obtain⟨b,o,rfl,_,Oe,hd0,hd1,hns,hf6⟩:=Jw H6.out hx
     have hbw:b<w.heap.size:=Nat.lt_of_lt_of_le Oe hhi
     have hc0':=(Nj.out.kp.cell (p:=⟨b,o+k*2,none⟩) hbw (NM.out b Oe)).trans hd0
     have hc1':=(Nj.out.kp.cell (p:=⟨b,o+k*2+1,none⟩) hbw (NM.out b Oe)).trans hd1
     have HTK:=AA htk
     have Hx:=AA hx
     have hk0:(0:Int)≤k:=by omega
     have hkc:k≤c6:=by omega
     have Sg:Hid ((L2++(enc m.Au.length++(m.Au.take k).flatMap KJ)).length≤590194315000):=AA (by
      have h1:=Xw Es.out.num Es.out.sz m.Au.length k hle
      have:=Es.out.sz
      have:=AEz.out
      rw [List.length_append];omega)
     have hz3:=Nj.out.box.q 7 rfl
     have hzl:w.heap.size<wr.heap.size:=Nj.out.box.lt
     clear hx hd0 hd1 htk hcap
     go_upto_region 32 with fail
     generalize hw3:wr.alloc _=w3
     have hb3:Below wr.heap.size wr w3:=by rw [←hw3];exact(Below.refl _ _).alloc (Nat.le_refl _) _
     have HB3:=AA (Nj.out.AAs hb3 (by rw [←hw3];simp))
     have Nt:Hid (AQ w3 wr.heap.size 101 [.string x.n,.int .i64 x.f]):=by rw [←hw3];exact AA (AQ.new wr 101 [.string x.n,.int .i64 x.f])
     generalize hK2:(fun j=>K1 j∨j=wr.heap.size)=K2 at HB3
     have EO:Hid ((∀j,K1 j→K2 j)∧K2 wr.heap.size∧(∀j,K j→K2 j)∧K2 w.heap.size):=AA (by rw [←hK2];exact⟨fun j h=> .inl h,.inr rfl,fun j h=> .inl (HKK.out.1 j h),.inl HKK.out.2⟩)
     generalize Qs:L2++(enc m.Au.length++(m.Au.take k).flatMap KJ)=LL at*
     have RF:=AA Qs
     clear hw3 hb3 hK2 hc0' hc1' Qs hz3
     have HST:=AA (fun W (hb:Below w3.heap.size w3 W)=>fP x.n hns (some ⟨b,o,none⟩) k c6 0 hi (m.Au.take k) W (Rd.C8 HTK.out (HB3.out.kp.trans (Keep.DK hb)) hhi (fun j _ h=>NM.out j h)) (by have:=Da (by decide) HX0.out;have:=of_decide_eq_true this;omega))
     have hm0:=Nt.out.q 0 rfl
     have gH:=HB3.out.box.q 7 rfl
     go_still_tail 6,(by kernel_rfl)
     repeat still_step
     try refine wpStill_nil ?_
     change wpList _ _ _ _ _ w3.drew
     have hbd:Below w3.heap.size w3 w3.drew:=⟨rfl,rfl,rfl,Nat.le_refl _,fun _ _=>rfl⟩
     have C9:=AA (HB3.out.Ee hbd)
     have RD:Hid (AQ w3.drew wr.heap.size 101 [.string x.n,.int .i64 x.f]):=AA Nt.out
     have hst:=HST.out w3.drew hbd
     clear HST HB3 Nt hm0 gH hbd
     generalize w3.drew=w4 at*
     go_wp2_with fail
     refine hst.mono ?_
     clear hst
     rintro e w5 ⟨hb5,hcase⟩
     have D8:=AA (C9.out.Ee hb5);have Qr:=AA (RD.out.below hb5 RD.out.lt)
     clear hb5 C9 RD
     rcases hcase with⟨h0,rfl⟩ | ⟨h0,rfl⟩
     case inr=>
      have hX:Hid (EE=Cq (Np x.n) (R3 (m.Au.take k) k x.n)):=AA (by rw [←HE.out];exact VN jk.out yx.out HX0.out NP.out Hx.out h0 (by rw [Rm Hx.out,Br h0]))
      have HS:=AA h0;clear h0
      go_wp2_with fail
      exact⟨rfl,D8.out.kp,.inr ⟨by rw [hX.out];exact HS.out,by rw [hX.out]⟩⟩
     have HS:=AA h0
     have hn32:x.n.size≤32:=of_decide_eq_true (Da (by decide) (AV (AV h0).1).1)
     clear h0
     have hm0:=Qr.out.q 0 rfl
     have hct:=O5 x.n (by omega) D8.out.hd (by have:=Sg.out;omega) D8.out.hb
     go_wp2_with fail
     refine hct.mono ?_
     clear hct
     rintro e w6 ⟨rfl,T_,hd6⟩
     have FQ:=AA (D8.out.to T_ hd6 EO.out.2.2.1 EO.out.2.2.2);have gI:=AA (Qr.out.keep T_ EO.out.2.1)
     have hm1:=gI.out.q 1 rfl
     have hz5:=FQ.out.box.q 5 rfl
     have hci:=SI x.f m.fns.length hf6.2 FQ.out.hd (by have:=Sg.out;have:=Gf (s:=x.n) (by omega);rw [List.length_append];omega) FQ.out.hb
     clear T_ hd6 D8 Qr hm0 hn32
     generalize oh:Ae (decide (0≤x.f∧x.f<m.fns.length)) 30=v30 at hci
     have HV:=AA oh
     clear oh
     go_wp2_with fail
     refine hci.mono ?_
     clear hci
     rintro e w7 ⟨Xy,hcase⟩
     rcases hcase with⟨dR,rfl,hd7⟩ | ⟨dR,rfl⟩
     case inr=>
      have wF:=AA dR
      have yF:=AA (FQ.out.kp.trans (Xy.mono EO.out.2.2.1))
      have hX:Hid (EE=v30):=AA (by rw [←HE.out];exact VN jk.out yx.out HX0.out NP.out Hx.out dR (by rw [Rm Hx.out,AY HS.out,HV.out]))
      clear dR Xy
      go_wp2_with fail
      exact⟨rfl,yF.out,.inr ⟨by rw [hX.out];exact wF.out,by rw [hX.out]⟩⟩
     have HN:Hid (Aa (k+1) (P6 m)=0):=AA (Cc NP.out (by rw [Rm Hx.out,AY HS.out,HV.out,dR]))
     have Xz:Hid (Dx w w7 base g gs w.heap.size K K1 m (Kj A1 A2 A3 A4 A5 (some ⟨b,o,none⟩) c1 c2 c3 c4 c5 c6 m) Yn (L2++(enc m.Au.length++(m.Au.take (k+1)).flatMap KJ))):=AA (by
      have h:=(FQ.out.to Xy hd7 EO.out.2.2.1 EO.out.2.2.2).less EO.out.1
      have he:LL++Fp x.n++enc x.f.toNat=L2++(enc m.Au.length++(m.Au.take (k+1)).flatMap KJ):=by
       rw [EN Hx.out,←RF.out]
       unfold KJ
       simp only [List.append_assoc]
      rw [he] at h
      exact h)
     clear Xy hd7 FQ gI hm1 hz5 dR
     go_wp2_with fail
     exact⟨⟨k+1,by omega,by go_num,Xz.out,HN.out⟩,by simp [intOf];omega⟩
    ·obtain rfl:k=m.Au.length:=by omega
     go_wp2_with fail
     go_end0
     have hX:EE=0:=by
      rw [←HE.out]
      unfold Ii I5
      rw [AY jk.out,AY yx.out,AY HX0.out,NP.out]
     have h:=Nj.out
     rw [List.take_length] at h
     refine⟨h.kp,.inl ⟨hX,rfl,Yn,?_⟩⟩
     have hfin:L++R4 m=L2++(enc m.Au.length++m.Au.flatMap KJ):=by
      unfold R4
      rw [←HL2.out,←rA.out]
      simp only [List.append_assoc]
     rw [hfin]
     exact h.hd.less HKK.out.1
end
end Go.Proofs.YtlagonfamllgjaaGreatDoor
