/- Part 38 of the proof: ModJ ModK VdS -/
import Derived.Laws.IdiomStrings
import Derived.Test.YtlagonfamllgjaaGreatDoorR37
namespace Go.Proofs.YtlagonfamllgjaaGreatDoor
set_option linter.unusedVariables false
set_option linter.unusedSimpArgs false
set_option maxRecDepth 100000
set_option maxHeartbeats 4000000
open Go.RowKit Tryz
section
attribute [local irreducible] Au
theorem tX (cs:List Value) (hi base g gs:Nat) (K:Nat→Prop) (m:AP) (L:List UInt8) (w:World) (h:Db.R w 0 hi cs m) (hhi:hi≤w.heap.size) (hK: ∀k,k<hi→K k) (hd:Hd w base g gs K m.first 0 m.types L) (hbase:base≤w.heap.size) (hin:zh m) (hL:L.length≤300000000000)
 (htab: ∀w',Below hi w w'→Lib.TabIs prog w' "strings.asciiSpace" .u8 Lib.asciiSpaceTab):
 Calls prog 129 #[.pointer (some ⟨g,0,none⟩),.agg cs.toArray] w fun e w'=>Keep K w w'∧Lr (IE m) e (∃all:Nat,Hd w' base g gs K m.first all m.types (L++Rj m)):=by
 generalize Td:IE m=EE
 have HE:=AA Td
 clear Td
 obtain⟨v1,v2,v3,v4,v5,v6,rfl,h1,h2,h3,hf63,hm63,h4,h5,h6⟩:=Av.1 h
 obtain⟨A1,c1,rfl⟩:=AJ h1
 obtain⟨A2,c2,rfl⟩:=AJ h2
 obtain⟨A3,c3,rfl⟩:=AJ h3
 obtain⟨A4,c4,rfl⟩:=AJ h4
 obtain⟨A5,c5,rfl⟩:=AJ h5
 obtain⟨A6,c6,rfl⟩:=AJ h6
 have H4:=AA h4;have H5:=AA h5;have H6:=AA h6;have Md:=AA hK;have EU:=AA hin;have HTAB:=AA htab;have HD0:=AA hd
 clear h h1 h2 h3 h4 h5 h6 hK hin htab hd hm63
 go_enter func129,ntmps129
 go_wp2_with fail
 generalize hw1:w.alloc _=w1
 have hb1:Below w.heap.size w w1:=by rw [←hw1];exact(Below.refl _ _).alloc (Nat.le_refl _) _
 have hbx:AQ w1 w.heap.size 29 (KH A1 A2 A3 A4 A5 A6 c1 c2 c3 c4 c5 c6 m):=by rw [←hw1];exact AQ.new w 29 (KH A1 A2 A3 A4 A5 A6 c1 c2 c3 c4 c5 c6 m)
 have hdd:=HD0.out.box hb1 (by rw [←hw1];simp)
 generalize hK1:(fun k=>K k∨k=w.heap.size)=K1 at*
 have HKK:Hid ((∀k,K k→K1 k)∧K1 w.heap.size):=AA (by rw [←hK1];exact⟨fun k h=> .inl h,.inr rfl⟩)
 have HB1:Hid (Dy w w1 base g gs w.heap.size K K1 m (KH A1 A2 A3 A4 A5 A6 c1 c2 c3 c4 c5 c6 m) 0 L):=AA ⟨Keep.DC hb1,hbx,hdd,Nat.le_trans hbase hb1.size⟩
 have hlf:m.fns.length≤2147483647:=by have:=EU.out.sz;unfold BU at this;omega
 clear hw1 hb1 hbx hdd hK1 HD0
 have hcount:=KG m.fns.length 128 (by omega) HB1.out.hd (by omega) HB1.out.hb
 refine hcount.mono ?_
 clear hcount
 rintro e w2 ⟨hk,hcase⟩
 rcases hcase with⟨h0,rfl,hd⟩ | ⟨h0,rfl⟩
 case inr=>
  have H0:=AA h0;clear h0
  have GN:=AA (HB1.out.kp.trans (hk.mono HKK.out.1))
  go_wp2_with fail
  have hX:EE=Ab (decide (m.fns.length≤128)) 20:=by
   rw [←HE.out]
   have:I8 m=Ab (decide (m.fns.length≤128)) 20:=by unfold I8;rw [Bn H0.out]
   unfold IE
   rw [Bn (by rw [this];exact H0.out),this]
  exact⟨rfl,GN.out,.inr ⟨by rw [hX];exact H0.out,by rw [hX]⟩⟩
 have fD:=AA h0
 have HB2:=AA (HB1.out.to (all':=0) hk hd HKK.out.1 HKK.out.2)
 clear h0 hk hd HB1
 have hx5:=HB2.out.box.q 5 rfl
 go_upto_block 0 with fail
 go_cut [] (fun wx=>Dy w wx base g gs w.heap.size K K1 m (KH A1 A2 A3 A4 A5 A6 c1 c2 c3 c4 c5 c6 m) (Et m m.fns.length) (L++(enc m.fns.length++m.fns.flatMap UY))∧Aa m.fns.length (TY m)=0)
 case first=>
  clear hx5
  go_wp2_with fail
  go_loopw [22] (fun i wr=> ∃k:Nat,k≤m.fns.length∧i= .int .i64 k∧Dy w wr base g gs w.heap.size K K1 m (KH A1 A2 A3 A4 A5 A6 c1 c2 c3 c4 c5 c6 m) (Et m k) (L++(enc m.fns.length++(m.fns.take k).flatMap UY))∧Aa k (TY m)=0)
   (fun i _=>m.fns.length-(intOf i).toNat)
  case atStart=>exact⟨0,Nat.zero_le _,rfl,by simpa [Et,BM] using HB2.out,rfl⟩
  case round=>
   obtain⟨k,hk,rfl,hbr,her⟩:=hrel
   have M6:=AA hbr;have Me:=AA her
   clear hbr her
   by_cases hltk:k<m.fns.length
   ·obtain⟨f,hx⟩: ∃f,m.fns[k]?=some f:=⟨_,List.getElem?_eq_getElem hltk⟩
    obtain⟨b,o,Jm,KP,rfl,_,N7,hd0,hd1,hd2,ADo,hloc,hcode⟩:=FN H4.out hx
    have hbw:b<w.heap.size:=Nat.lt_of_lt_of_le N7 hhi
    have hc0':=(M6.out.kp.cell (p:=⟨b,o+k*3,none⟩) hbw (Md.out b N7)).trans hd0
    have hc1':=(M6.out.kp.cell (p:=⟨b,o+k*3+1,none⟩) hbw (Md.out b N7)).trans hd1
    have hc2':=(M6.out.kp.cell (p:=⟨b,o+k*3+2,none⟩) hbw (Md.out b N7)).trans hd2
    have l8:=AA hcode
    have Hx:=AA hx
    have hk0:(0:Int)≤k:=by omega
    have R5:Hid ((L++(enc m.fns.length++(m.fns.take k).flatMap UY)).length≤390194315000):=AA (by
     have h1:=Vn EU.out.num EU.out.sz m.fns.length k hlf
     have:=EU.out.sz
     rw [List.length_append];omega)
    have hz0:=M6.out.box.q 0 rfl
    have hzl:w.heap.size<wr.heap.size:=M6.out.box.lt
    clear hx hcode hd0 hd1 hd2
    go_wp2_with fail
    generalize hw3:wr.alloc _=w3
    have hb3:Below wr.heap.size wr w3:=by rw [←hw3];exact(Below.refl _ _).alloc (Nat.le_refl _) _
    have HB3:=AA (M6.out.zi hb3 (by rw [←hw3];simp))
    have NH:Hid (AQ w3 wr.heap.size 96 (fnC Jm KP f)):=by rw [←hw3];exact AA (AQ.new wr 96 (fnC Jm KP f))
    generalize hK2:(fun j=>K1 j∨j=wr.heap.size)=K2 at HB3
    have EI:Hid ((∀j,K1 j→K2 j)∧K2 wr.heap.size∧(∀j,K j→K2 j)∧K2 w.heap.size):=AA (by rw [←hK2];exact⟨fun j h=> .inl h,.inr rfl,fun j h=> .inl (HKK.out.1 j h),.inl HKK.out.2⟩)
    generalize Tg:L++(enc m.fns.length++(m.fns.take k).flatMap UY)=LL at*
    have Vr:=AA Tg
    clear hw3 hb3 hK2 hc0' hc1' hc2' Tg hz0
    have hci:=Rv f.t m.types.length ADo.2 HB3.out.hd (by have:=R5.out;omega) HB3.out.hb
    generalize mR:Ab (decide (0≤f.t∧f.t<m.types.length)) 30=v30 at hci
    have HV:=AA mR
    clear mR
    refine hci.mono ?_
    clear hci
    rintro e w4 ⟨hk4,hcase⟩
    rcases hcase with⟨bX,rfl,hd4⟩ | ⟨bX,rfl⟩
    case inr=>
     have tY:=AA bX
     have LH:=AA (HB3.out.kp.trans (hk4.mono EI.out.2.2.1))
     have hX:Hid (EE=v30):=AA (by rw [←HE.out];exact Oq fD.out Me.out Hx.out bX (by rw [Pz Hx.out,HV.out,Bn bX]))
     clear bX hk4
     go_wp2_with fail
     exact⟨rfl,LH.out,.inr ⟨by rw [hX.out];exact tY.out,by rw [hX.out]⟩⟩
    have tY:Hid (Ab (decide (0≤f.t∧f.t<m.types.length)) 30=0):=AA (by rw [HV.out];exact bX)
    have Ct:=AA (HB3.out.to hk4 hd4 EI.out.2.2.1 EI.out.2.2.2)
    have Qo:=AA (NH.out.keep hk4 EI.out.2.1)
    have hft:=of_decide_eq_true (DX (by decide) tY.out)
    obtain⟨t,ht⟩:=Int.eq_ofNat_of_zero_le hft.1
    obtain⟨x,hxt⟩: ∃x,m.types[t]?=some x:=⟨_,List.getElem?_eq_getElem (by omega)⟩
    have Hxt:Hid (m.types[t]?=some x∧Jj m f.t=x.p.size):=AA ⟨hxt,by unfold Jj;rw [ht];simp [hxt]⟩
    have hp8:=EU.out.par x (List.mem_of_getElem? hxt)
    have hroom:=qJ t x (Ct.out.ES (show Below w4.heap.size w4 w4.drew from⟨rfl,rfl,rfl,Nat.le_refl _,fun _ _=>rfl⟩)).hd hxt (by omega)
    rw [←ht] at hroom
    have HRM:=AA (hroom.mono fun e w' h=>(⟨h.2,h.1⟩:e=_∧w'=w4.drew))
    have gq:Hid ((enc f.t.toNat).length≤10):=AA (Im ADo.2)
    have hm0:=Qo.out.q 0 rfl
    have hm1:=Qo.out.q 1 rfl
    clear bX hk4 hd4 hft ht hxt hroom HB3 NH
    go_wp2_with fail
    go_still_tail 11,(by kernel_rfl)
    repeat still_step
    still_call HRM.out
    repeat still_step
    try refine wpStill_nil ?_
    change wpList _ _ _ _ _ w4.drew
    have ADp:=AA (Ct.out.ES (show Below w4.heap.size w4 w4.drew from⟨rfl,rfl,rfl,Nat.le_refl _,fun _ _=>rfl⟩))
    have z8:Hid (AQ w4.drew wr.heap.size 96 (fnC Jm KP f)):=AA Qo.out
    clear HRM Ct Qo hm0 hm1
    generalize w4.drew=w5 at*
    go_wp2_with fail
    refine(Ni _ f.loc (64-x.p.size) hloc _).mono ?_
    rintro e w6 ⟨hb6,hcase⟩
    have EL:=AA (ADp.out.ES hb6);have fB:=AA (z8.out.below hb6 z8.out.lt)
    clear hb6 ADp z8
    rw [←Hxt.out.2] at hcase
    rcases hcase with⟨h8,rfl⟩ | ⟨h8,rfl⟩
    case inr=>
     have H8:=AA h8
     have hX:Hid (EE=Bz f.loc (64-Jj m f.t)):=AA (by rw [←HE.out];exact Oq fD.out Me.out Hx.out h8 (by rw [Pz Hx.out,AX tY.out,Bn h8]))
     clear h8
     go_wp2_with fail
     exact⟨rfl,EL.out.kp,.inr ⟨by rw [hX.out];exact H8.out,by rw [hX.out]⟩⟩
    have H8:=AA h8;clear h8
    have hm1:=fB.out.q 1 rfl
    have hlocsz:f.loc.size≤64:=by have:=(Ew H8.out).1;omega
    have Jo:=AA (F8 (s:=f.loc) (by omega))
    go_wp2_with fail
    have hct:=OQ f.loc (by omega) EL.out.hd (by have:=R5.out;have:=gq.out;rw [List.length_append];omega) EL.out.hb
    refine hct.mono ?_
    clear hct
    rintro e w7 ⟨rfl,Xj,hd7⟩
    have TP:=AA (EL.out.to Xj hd7 EI.out.2.2.1 EI.out.2.2.2);have yG:=AA (fB.out.keep Xj EI.out.2.1)
    have hm2:=yG.out.q 2 rfl
    clear Xj hd7 EL fB hm1
    go_wp2_with fail
    go_still_tail 6,(by kernel_rfl)
    repeat still_step
    try refine wpStill_nil ?_
    change wpList _ _ _ _ _ w7.drew
    have tZ:=AA (TP.out.ES (show Below w7.heap.size w7 w7.drew from⟨rfl,rfl,rfl,Nat.le_refl _,fun _ _=>rfl⟩))
    have ADq:Hid (AQ w7.drew wr.heap.size 96 (fnC Jm KP f)):=AA yG.out
    clear TP yG hm2
    generalize w7.drew=w8 at*
    have hcl:f.code.length≤2147483647:=by have h1:=DW Ii m.fns f (List.mem_of_getElem? Hx.out);have h2:=EU.out.sz;have h3:f.code.length≤Ii f:=(by unfold Ii Ki;omega);unfold BU at h2;omega
    have hcc:=qI f.code.length hcl (mK EU.out.sz k) tZ.out.hd
    go_wp2_with fail
    refine hcc.mono ?_
    clear hcc
    rintro e w9 ⟨hk9,hcase⟩
    rcases hcase with⟨h20,rfl,hd9⟩ | ⟨h20,rfl⟩
    case inr=>
     have H20:=AA h20
     have HK9:=AA (tZ.out.kp.trans (hk9.mono EI.out.2.2.1))
     have hX:Hid (EE=Cg (Ab (decide (f.code.length≤2048)) 20) (Ab (decide (Et m k+f.code.length≤16384)) 20)):=AA (by
      rw [←HE.out]
      refine Oq fD.out Me.out Hx.out h20 ?_
      rw [Pz Hx.out,AX tY.out,AX H8.out,K4 Hx.out,←EG,Bn h20])
     clear h20 hk9
     go_wp2_with fail
     exact⟨rfl,HK9.out,.inr ⟨by rw [hX.out];exact H20.out,by rw [hX.out]⟩⟩
    have H20:=AA h20
    have Zy:=AA (tZ.out.to hk9 hd9 EI.out.2.2.1 EI.out.2.2.2);have Hn9:=AA (ADq.out.keep hk9 EI.out.2.1)
    have hm2:=Hn9.out.q 2 rfl
    clear h20 hk9 hd9 tZ ADq
    go_wp2_with fail
    have hcn:=Ma f.code.length (by omega) Zy.out.hd (by have:=R5.out;have:=gq.out;have:=Jo.out;simp only [List.length_append] at*;omega) Zy.out.hb
    refine hcn.mono ?_
    clear hcn
    rintro e wa ⟨rfl,hka,hda⟩
    have tq:=AA (Zy.out.to hka hda EI.out.2.2.1 EI.out.2.2.2);have Hna:=AA (Hn9.out.keep hka EI.out.2.1)
    have Yi:=Hna.out.q 2 rfl
    clear hka hda Zy Hn9 hm2
    go_upto_block 2 with fail
    generalize hLF:LL++enc f.t.toNat++FM f.loc++enc f.code.length=LF at*
    have HLF:=AA hLF
    have ADs:Hid (∀j,(LF++(f.code.take j).flatMap Gc).length≤500000000000):=AA (fun j=>by
     have h1:=au EU.out.num EU.out.sz (List.mem_of_getElem? Hx.out) j
     have h2:=DW Ii m.fns f (List.mem_of_getElem? Hx.out)
     have h3:=EU.out.sz
     have h4:=R5.out
     rw [←hLF]
     unfold BU at h3
     simp only [List.length_append] at*
     omega)
    clear hLF
    go_wp2_with fail
    clear Yi M6
    generalize wr.heap.size=fb at*
    clear wr
    go_loopw [64] (fun i wi=> ∃j:Nat,j≤f.code.length∧i= .int .i64 j∧Dy w wi base g gs w.heap.size K K2 m (KH A1 A2 A3 (some ⟨b,o,none⟩) A5 A6 c1 c2 c3 c4 c5 c6 m) (Et m k+f.code.length) (LF++(f.code.take j).flatMap Gc)∧Aa j (J4 f)=0)
     (fun i _=>f.code.length-(intOf i).toNat)
    case atStart=>exact⟨0,Nat.zero_le _,rfl,by simpa using tq.out,rfl⟩
    case round=>
     obtain⟨j,hj,rfl,hbi,hei⟩:=hrel
     have HBi:=AA hbi;have HEi:=AA hei
     clear hbi hei
     by_cases ADt:j<f.code.length
     ·obtain⟨y,hy⟩: ∃y,f.code[j]?=some y:=⟨_,List.getElem?_eq_getElem ADt⟩
      obtain⟨bi,oi,hAc,_,tu,cs,hcs,za⟩:=Dj l8.out hy
      subst hAc
      have hri2:=za
      obtain⟨Yx,rfl,ha63,hl⟩:=Dz.1 hri2
      obtain⟨Gb,GH,rfl⟩:=AJ hl
      have hbw:bi<w.heap.size:=Nat.lt_of_lt_of_le tu hhi
      have hi0:wr.cell? ⟨bi,oi+j*3,none⟩=some (.int .u8 (y.op.toNat:Int)):=(HBi.out.kp.cell (p:=⟨bi,oi+j*3,none⟩) hbw (Md.out bi tu)).trans (hcs 0 _ rfl)
      have hi1:wr.cell? ⟨bi,oi+j*3+1,none⟩=some (.int .i64 y.a):=(HBi.out.kp.cell (p:=⟨bi,oi+j*3+1,none⟩) hbw (Md.out bi tu)).trans (hcs 1 _ rfl)
      have hi2:wr.cell? ⟨bi,oi+j*3+2,none⟩=some (.slice Gb y.l.length GH):=(HBi.out.kp.cell (p:=⟨bi,oi+j*3+2,none⟩) hbw (Md.out bi tu)).trans (hcs 2 _ rfl)
      have hj0:(0:Int)≤j:=by omega
      have Hri:=AA za;have Hy:=AA hy
      clear za hcs hl hy hbw ha63
      go_wp2_with fail
      generalize hwi:wr.alloc _=wi
      have hbi:Below wr.heap.size wr wi:=by rw [←hwi];exact(Below.refl _ _).alloc (Nat.le_refl _) _
      have z_:=AA (HBi.out.ES hbi)
      clear hwi hbi hi0 hi1 hi2 HBi
      have hen:=Vu _ hi y wi (Rd.CB Hri.out z_.out.kp hhi (fun j _ h=>Md.out j h)) (Nat.le_trans hhi z_.out.kp.size) (HTAB.out _ (z_.out.kp.below hhi Md.out))
      by_cases h0:Aq y=0
      case neg=>
       generalize hci:Aq y=ci at hen h0
       have HCI:=AA hci
       clear hci
       refine hen.mono ?_
       clear hen
       rintro e wj ⟨hbj,Aj,cj,rfl,hoj⟩
       have HBk:=AA (z_.out.ES hbj)
       have hX:Hid (EE=ci):=AA (by
        have h1:=AU H20.out
        rw [←HE.out]
        refine Oq fD.out Me.out Hx.out h0 ?_
        rw [Pz Hx.out,AX tY.out,AX H8.out,AX h1.1,K4 Hx.out,AX h1.2,Da HEi.out (by rw [Ou Hy.out,HCI.out];exact h0) _ ADt,Ou Hy.out,HCI.out])
       have hb:(ci==0)=false:=by simpa using h0
       have Hc0:=AA h0
       clear hbj hoj z_ h0
       go_wp2_with fail
       refine(DF ci 0 _).mono ?_
       rintro e wk ⟨rfl,rfl⟩
       go_wp2_with fail
       exact⟨rfl,HBk.out.kp,.inr ⟨by rw [hX.out];exact Hc0.out,by rw [hX.out]⟩⟩
      have Hc0:=AA h0
      have hio:CF y=Gc y:=by unfold CF;rw [if_pos h0]
      rw [hio,h0] at hen
      refine hen.mono ?_
      clear hen h0 hio
      rintro e wj ⟨hbj,Aj,cj,rfl,hoj⟩
      have HBk:=AA (z_.out.ES hbj)
      have HRow:=AA (Row.own hoj)
      clear hbj hoj z_
      go_wp2_with fail
      refine(Dl 0 0 _).mono ?_
      rintro e wk ⟨rfl,rfl⟩
      have hd:=HBk.out.hd
      obtain⟨T,d,s1,⟨A,c,s2⟩,s3,s4,s5⟩:=hd
      generalize hLJ:LF++(f.code.take j).flatMap Gc=LJ at*
      have HLJ:=AA hLJ
      have ADv:Hid (LJ.length≤500000000000∧LJ.length+(Gc y).length≤500000000000):=AA ⟨by rw [←hLJ];exact ADs.out j,by have:=ADs.out (j+1);rw [EH Hy.out,←List.append_assoc,hLJ,List.length_append] at this;exact this⟩
      have hg2:=s2.blk.q 2 rfl
      have hgf:=s2.blk.frozen 2
      have hgl:=s2.blk.lt
      have hbk:base≤wj.heap.size:=HBk.out.hb
      have oJ:=AA s1;have ak:=AA s2;have vg:=AA s4;have qV:=AA s5
      obtain⟨i0,hi0,hz,hs',hby⟩:=info_parts Dt
      clear hLJ s1 s2 s4 s5
      go_wp2_with (at_builtin;refine QN _ rfl (.tmp 81) (.tmp 82) 40 rfl base 5 i0 _ 1 underlying40 hi0 hz hs' hby rfl _ LJ.length (LJ.map bv) rfl (by exact ak.out.own) _ Aj (Gc y).length cj ((Gc y).map bv) (YN Hc0.out) rfl (by rw [List.length_map,Nat.mul_one]) (by exact HRow.out) (Eh _) (by have:=ADv.out;unfold maxLen;omega) (by have:=ADv.out;omega) hbk ?_;intro A8 c8 w8 h2 h3 h4;have HP:=AA (ak.out.put rfl h3 h2 h4);have PE:=Ay h3 ak.out.blk (fun e=>(ak.out.apart g e).2 rfl);have hf8:=PE.frozen 2;have hc8:=PE.cell 2;have hl8:=PE.lt;clear h2 h3 h4 PE)
      all_goals
       have HH:=AA (Hd.of oJ.out s3 vg.out qV.out HP.out.1 HP.out.2)
       have HN:Hid (Aa (j+1) (J4 f)=0):=AA (CQ HEi.out (by rw [Ou Hy.out];exact Hc0.out))
       have HF:Hid (LJ++Gc y=LF++(f.code.take (j+1)).flatMap Gc):=AA (by rw [EH Hy.out,←HLJ.out,List.append_assoc])
       refine⟨⟨j+1,by omega,by go_num,?_,HN.out⟩,by simp [intOf];omega⟩
       rw [←HF.out]
       exact HBk.out.to HH.out.1 HH.out.2 EI.out.2.2.1 EI.out.2.2.2
     ·obtain rfl:j=f.code.length:=by omega
      have HD:Hid (Dy w wr base g gs w.heap.size K K1 m (KH A1 A2 A3 (some ⟨b,o,none⟩) A5 A6 c1 c2 c3 c4 c5 c6 m) (Et m (k+1)) (L++(enc m.fns.length++(m.fns.take (k+1)).flatMap UY))):=AA (by
       have h:=HBi.out.less EI.out.1
       rw [List.take_length,←HLF.out,←Vr.out,←K4 Hx.out] at h
       rw [EH Hx.out]
       rw [show UY f=enc f.t.toNat++FM f.loc++enc f.code.length++f.code.flatMap Gc from rfl]
       simpa only [List.append_assoc] using h)
      have HN:Hid (Aa (k+1) (TY m)=0):=AA (CQ Me.out (by
       have:=AU H20.out
       rw [Pz Hx.out,AX tY.out,AX H8.out,AX this.1,K4 Hx.out,AX this.2,HEi.out]))
      go_wp2_with fail
      exact⟨⟨k+1,by omega,by go_num,HD.out,HN.out⟩,by simp [intOf];omega⟩
   ·obtain rfl:k=m.fns.length:=by omega
    go_wp2_with fail
    go_meet
    refine⟨?_,Me.out⟩
    have:=M6.out
    rw [List.take_length] at this
    exact this
 case rest=>
  obtain⟨hbc,ZL⟩:=hcut
  have iZ:Hid (I8 m=0):=AA (by unfold I8;rw [AX fD.out];exact ZL)
  have AAA:Hid ((L++(enc m.fns.length++m.fns.flatMap UY)).length≤390194315000):=AA (by
   have h1:=Vn EU.out.num EU.out.sz m.fns.length m.fns.length hlf
   rw [List.take_length] at h1
   have:=EU.out.sz
   rw [List.length_append];omega)
  generalize hL1:L++(enc m.fns.length++m.fns.flatMap UY)=L1 at*
  have oU:=AA hL1
  have Um:=AA hbc
  have hx6:=hbc.box.q 6 rfl
  have hld:m.dat.length≤2147483647:=by have:=EU.out.sz;unfold BU at this;omega
  generalize Et m m.fns.length=YO at*
  clear hbc ZL hL1 HB2 hx5
  go_wp2_with fail
  have hcount:=KG m.dat.length 64 (by omega) Um.out.hd (by have:=AAA.out;omega) Um.out.hb
  refine hcount.mono ?_
  clear hcount
  rintro e wd ⟨hk,hcase⟩
  rcases hcase with⟨h0,rfl,hd⟩ | ⟨h0,rfl⟩
  case inr=>
   have H0:=AA h0;clear h0
   have GN:=AA (Um.out.kp.trans (hk.mono HKK.out.1))
   go_wp2_with fail
   have hX:EE=Ab (decide (m.dat.length≤64)) 20:=by rw [←HE.out];exact Zu iZ.out H0.out
   exact⟨rfl,GN.out,.inr ⟨by rw [hX];exact H0.out,by rw [hX]⟩⟩
  have HD0:=AA h0
  have HBd:=AA (Um.out.to (all':=YO) hk hd HKK.out.1 HKK.out.2)
  have hx6:=HBd.out.box.q 6 rfl
  clear h0 hk hd Um
  go_upto_block 4 with fail
  go_cut [] (fun wx=>Dy w wx base g gs w.heap.size K K1 m (KH A1 A2 A3 A4 A5 A6 c1 c2 c3 c4 c5 c6 m) YO (L1++(enc m.dat.length++m.dat.flatMap I9))∧Aa m.dat.length (Kl m)=0)
  case first=>
   clear hx6
   go_wp2_with fail
   go_loopw [96] (fun i wr=> ∃k:Nat,k≤m.dat.length∧i= .int .i64 k∧Dy w wr base g gs w.heap.size K K1 m (KH A1 A2 A3 A4 A5 A6 c1 c2 c3 c4 c5 c6 m) YO (L1++(enc m.dat.length++(m.dat.take k).flatMap I9))∧Aa k (Kl m)=0)
    (fun i _=>m.dat.length-(intOf i).toNat)
   case atStart=>exact⟨0,Nat.zero_le _,rfl,by simpa using HBd.out,rfl⟩
   case round=>
    obtain⟨k,hk,rfl,hbr,her⟩:=hrel
    have M6:=AA hbr;have Me:=AA her
    clear hbr her
    by_cases hltk:k<m.dat.length
    ·obtain⟨d,hx⟩: ∃d,m.dat[k]?=some d:=⟨_,List.getElem?_eq_getElem hltk⟩
     have hcap:=Zx H5.out
     have htk:=bW H5.out (k:=k) (by omega)
     obtain⟨b,o,Qw,QH,rfl,_,N7,hd0,hd1,hat,hbb⟩:=JO H5.out hx
     have hbw:b<w.heap.size:=Nat.lt_of_lt_of_le N7 hhi
     have hc0':=(M6.out.kp.cell (p:=⟨b,o+k*2,none⟩) hbw (Md.out b N7)).trans hd0
     have hc1':=(M6.out.kp.cell (p:=⟨b,o+k*2+1,none⟩) hbw (Md.out b N7)).trans hd1
     have iw:=AA hbb;have HTK:=AA htk
     have Hx:=AA hx
     have hk0:(0:Int)≤k:=by omega
     have hkc:k≤c5:=by omega
     have R5:Hid ((L1++(enc m.dat.length++(m.dat.take k).flatMap I9)).length≤490194315000):=AA (by
      have h1:=Vo EU.out.num EU.out.sz m.dat.length k hld
      have:=EU.out.sz
      have:=AAA.out
      rw [List.length_append];omega)
     have Hbl:Hid (d.b.length≤2147483647):=AA (by
      have h1:=DW (fun d:Gn=>d.b.length) m.dat d (List.mem_of_getElem? hx)
      have h2:=EU.out.sz
      unfold BU at h2;omega)
     have hz3:=M6.out.box.q 6 rfl
     have hzl:w.heap.size<wr.heap.size:=M6.out.box.lt
     clear hx hd0 hd1 hbb htk hcap
     go_upto_region 22 with fail
     generalize hw3:wr.alloc _=w3
     have hb3:Below wr.heap.size wr w3:=by rw [←hw3];exact(Below.refl _ _).alloc (Nat.le_refl _) _
     have HB3:=AA (M6.out.zi hb3 (by rw [←hw3];simp))
     have NH:Hid (AQ w3 wr.heap.size 99 [.int .i64 d.at_,.slice Qw d.b.length QH]):=by rw [←hw3];exact AA (AQ.new wr 99 [.int .i64 d.at_,.slice Qw d.b.length QH])
     generalize hK2:(fun j=>K1 j∨j=wr.heap.size)=K2 at HB3
     have EI:Hid ((∀j,K1 j→K2 j)∧K2 wr.heap.size∧(∀j,K j→K2 j)∧K2 w.heap.size):=AA (by rw [←hK2];exact⟨fun j h=> .inl h,.inr rfl,fun j h=> .inl (HKK.out.1 j h),.inl HKK.out.2⟩)
     generalize Tg:L1++(enc m.dat.length++(m.dat.take k).flatMap I9)=LL at*
     have Vr:=AA Tg
     clear hw3 hb3 hK2 hc0' hc1' Tg hz3
     have HST:=AA (fun W (hb:Below w3.heap.size w3 W)=>eH d.at_ (some ⟨b,o,none⟩) k c5 0 hi (m.dat.take k) (HB3.out.ES hb).hd (Rd.CB HTK.out (HB3.out.kp.trans (Keep.DC hb)) hhi (fun j _ h=>Md.out j h)) EU.out.f0 EU.out.f1 hat (mJ EU.out.f0 EU.out.f1 Me.out hk) (by have:=DX (by decide) HD0.out;have:=of_decide_eq_true this;omega))
     have hm0:=NH.out.q 0 rfl
     have fA:=HB3.out.box.q 6 rfl
     go_still_tail 9,(by kernel_rfl)
     repeat still_step
     try refine wpStill_nil ?_
     change wpList _ _ _ _ _ w3.drew
     have hbd:Below w3.heap.size w3 w3.drew:=⟨rfl,rfl,rfl,Nat.le_refl _,fun _ _=>rfl⟩
     have Ct:=AA (HB3.out.ES hbd)
     have Qo:Hid (AQ w3.drew wr.heap.size 99 [.int .i64 d.at_,.slice Qw d.b.length QH]):=AA NH.out
     have hst:=HST.out w3.drew hbd
     clear HST HB3 NH hm0 fA hbd
     generalize w3.drew=w4 at*
     go_wp2_with fail
     refine hst.mono ?_
     clear hst
     rintro e w5 ⟨hb5,hcase⟩
     change Ends (stE m k d) 0 e at hcase
     have Dv:=AA (Ct.out.ES hb5);have QO:=AA (Qo.out.below hb5 Qo.out.lt)
     clear hb5 Ct Qo
     rcases hcase with⟨h0,rfl⟩ | ⟨h0,rfl⟩
     case inr=>
      have hX:Hid (EE=stE m k d):=AA (by rw [←HE.out];exact P5 iZ.out HD0.out Me.out Hx.out h0 (by rw [Ot Hx.out,Bn h0]))
      have HS:=AA h0;clear h0
      go_wp2_with fail
      exact⟨rfl,Dv.out.kp,.inr ⟨by rw [hX.out];exact HS.out,by rw [hX.out]⟩⟩
     have HS:=AA h0;clear h0
     have ADw:=of_decide_eq_true (DX (by decide) (AU HS.out).1)
     obtain⟨n,hn⟩:=Int.eq_ofNat_of_zero_le ADw.1
     have hm0:=QO.out.q 0 rfl
     have Hnn:Hid (d.at_=(n:Int)∧n≤262144):=AA ⟨hn,by have:=EU.out.f1;omega⟩
     have hcn:=Ma n (by have:=Hnn.out.2;omega) Dv.out.hd (by have:=R5.out;omega) Dv.out.hb
     rw [←hn] at hcn
     have hfa: -9223372036854775808≤m.first*4096∧m.first*4096≤262144∧0≤d.at_∧d.at_≤m.first*4096:=by have:=EU.out.f0;have:=EU.out.f1;omega
     have Hfa:=AA hfa
     clear hn ADw hfa
     go_wp2_with fail
     refine hcn.mono ?_
     clear hcn
     rintro e w6 ⟨rfl,L8,hd6⟩
     have EL:=AA (Dv.out.to L8 hd6 EI.out.2.2.1 EI.out.2.2.2);have fB:=AA (QO.out.keep L8 EI.out.2.1)
     have hm1:=fB.out.q 1 rfl
     have hm0:=fB.out.q 0 rfl
     have hz3:=EL.out.box.q 3 rfl
     have hfa:=Hfa.out
     have hwm:IntKind.i64.wrap (m.first*4096)=m.first*4096:=by rw [IntKind.wrap_i64];omega
     have hws:IntKind.i64.wrap (m.first*4096-d.at_)=m.first*4096-d.at_:=by rw [IntKind.wrap_i64];omega
     clear L8 hd6 Dv QO hfa
     go_wp2_with fail
     refine(En _ 13 0 (by decide) _).mono ?_
     rintro e w7 ⟨rfl,hcase⟩
     rcases hcase with⟨h0,rfl⟩ | ⟨h0,rfl⟩
     case inr=>
      have H13:=AA h0
      have hX:Hid (EE=Ab (decide ((d.b.length:Int)≤m.first*4096-d.at_)) 13):=AA (by rw [←HE.out];exact P5 iZ.out HD0.out Me.out Hx.out h0 (by rw [Ot Hx.out,AX HS.out,Bn h0]))
      clear h0
      go_wp2_with fail
      exact⟨rfl,EL.out.kp,.inr ⟨by rw [hX.out];exact H13.out,by rw [hX.out]⟩⟩
     have H13:=AA h0;clear h0
     go_wp2_with fail
     refine(En _ 17 0 (by decide) _).mono ?_
     rintro e w7 ⟨rfl,hcase⟩
     rcases hcase with⟨h0,rfl⟩ | ⟨h0,rfl⟩
     case inr=>
      have H17:=AA h0
      have hX:Hid (EE=Ab (decide (0<d.b.length)) 17):=AA (by rw [←HE.out];exact P5 iZ.out HD0.out Me.out Hx.out h0 (by rw [Ot Hx.out,AX HS.out,AX H13.out]))
      clear h0
      go_wp2_with fail
      exact⟨rfl,EL.out.kp,.inr ⟨by rw [hX.out];exact H17.out,by rw [hX.out]⟩⟩
     have H17:=AA h0
     have hpos:=of_decide_eq_true (DX (by decide) h0)
     clear h0
     obtain⟨bb,ob,rfl,AAB,hbc⟩:=(Rd.Gj iw.out).2 (by rw [List.length_map];exact hpos)
     have ADx:=run_convert_bytes_back (P:=prog) w6 40 9 5 ⟨bb,ob,none⟩ QH d.b underlying40 underlying5 underlying9 (fun j hj=>by
      rw [Addr.add_lit,(EL.out.kp.cell (p:=⟨bb,ob+j,none⟩) (Nat.lt_of_lt_of_le AAB hhi) (Md.out bb AAB))]
      exact hbc j _ (by rw [List.getElem?_map,List.getElem?_eq_getElem hj];rfl))
     clear hpos hbc AAB hws hwm
     go_wp2_with fail
     have hct:=OQ ⟨d.b.toArray⟩ (by have:=Hbl.out;show d.b.toArray.size≤_;simp;omega) EL.out.hd (by have:=R5.out;have:=AY n (by have:=Hnn.out.2;omega);rw [List.length_append];omega) EL.out.hb
     refine hct.mono ?_
     clear hct ADx
     rintro e w8 ⟨rfl,hk8,hd8⟩
     have HN:Hid (Aa (k+1) (Kl m)=0):=AA (CQ Me.out (by rw [Ot Hx.out,AX HS.out,AX H13.out];exact H17.out))
     have Vq:Hid (Dy w w8 base g gs w.heap.size K K1 m (KH A1 A2 A3 A4 (some ⟨b,o,none⟩) A6 c1 c2 c3 c4 c5 c6 m) YO (L1++(enc m.dat.length++(m.dat.take (k+1)).flatMap I9))):=AA (by
      have h:=(EL.out.to hk8 hd8 EI.out.2.2.1 EI.out.2.2.2).less EI.out.1
      have he:LL++enc n++FM ⟨d.b.toArray⟩=L1++(enc m.dat.length++(m.dat.take (k+1)).flatMap I9):=by
       rw [EH Hx.out,←Vr.out]
       unfold I9 FM
       rw [Hnn.out.1]
       show _=_
       simp only [List.append_assoc,Int.toNat_natCast]
       rfl
      rw [he] at h
      exact h)
     clear hk8 hd8 EL fB hm0 hm1 hz3
     go_wp2_with fail
     exact⟨⟨k+1,by omega,by go_num,Vq.out,HN.out⟩,by simp [intOf];omega⟩
    ·obtain rfl:k=m.dat.length:=by omega
     go_wp2_with fail
     go_meet
     refine⟨?_,Me.out⟩
     have:=M6.out
     rw [List.take_length] at this
     exact this
  case rest=>
   obtain⟨hbc,ZL⟩:=hcut
   have wm:Hid (FY m=0):=AA (by unfold FY;rw [AX HD0.out];exact ZL)
   have ADy:Hid ((L1++(enc m.dat.length++m.dat.flatMap I9)).length≤490194315000):=AA (by
    have h1:=Vo EU.out.num EU.out.sz m.dat.length m.dat.length hld
    rw [List.take_length] at h1
    have:=EU.out.sz
    have:=AAA.out
    rw [List.length_append];omega)
   generalize hL2:L1++(enc m.dat.length++m.dat.flatMap I9)=L2 at*
   have HL2:=AA hL2
   have Um:=AA hbc
   have hx7:=hbc.box.q 7 rfl
   have hle:m.Aw.length≤2147483647:=by have:=EU.out.sz;unfold BU at this;omega
   clear hbc ZL hL2 HBd hx6
   go_wp2_with fail
   have hcount:=KG m.Aw.length 64 (by omega) Um.out.hd (by have:=ADy.out;omega) Um.out.hb
   refine hcount.mono ?_
   clear hcount
   rintro e wd ⟨hk,hcase⟩
   rcases hcase with⟨h0,rfl,hd⟩ | ⟨h0,rfl⟩
   case inr=>
    have H0:=AA h0;clear h0
    have GN:=AA (Um.out.kp.trans (hk.mono HKK.out.1))
    go_wp2_with fail
    have hX:EE=Ab (decide (m.Aw.length≤64)) 20:=by rw [←HE.out];exact Zv iZ.out wm.out H0.out
    exact⟨rfl,GN.out,.inr ⟨by rw [hX];exact H0.out,by rw [hX]⟩⟩
   have HX0:=AA h0
   have HBd:=AA (Um.out.to (all':=YO) hk hd HKK.out.1 HKK.out.2)
   have hx7:=HBd.out.box.q 7 rfl
   clear h0 hk hd Um
   go_wp2_with fail
   go_loopw [145] (fun i wr=> ∃k:Nat,k≤m.Aw.length∧i= .int .i64 k∧Dy w wr base g gs w.heap.size K K1 m (KH A1 A2 A3 A4 A5 A6 c1 c2 c3 c4 c5 c6 m) YO (L2++(enc m.Aw.length++(m.Aw.take k).flatMap Jl))∧Aa k (PU m)=0)
    (fun i _=>m.Aw.length-(intOf i).toNat)
   case atStart=>exact⟨0,Nat.zero_le _,rfl,by simpa using HBd.out,rfl⟩
   case round=>
    obtain⟨k,hk,rfl,hbr,her⟩:=hrel
    have M6:=AA hbr;have Me:=AA her
    clear hbr her
    by_cases hltk:k<m.Aw.length
    ·obtain⟨x,hx⟩: ∃x,m.Aw[k]?=some x:=⟨_,List.getElem?_eq_getElem hltk⟩
     have hcap:=Zx H6.out
     have htk:=bW H6.out (k:=k) (by omega)
     obtain⟨b,o,rfl,_,N7,hd0,hd1,hns,hf6⟩:=MS H6.out hx
     have hbw:b<w.heap.size:=Nat.lt_of_lt_of_le N7 hhi
     have hc0':=(M6.out.kp.cell (p:=⟨b,o+k*2,none⟩) hbw (Md.out b N7)).trans hd0
     have hc1':=(M6.out.kp.cell (p:=⟨b,o+k*2+1,none⟩) hbw (Md.out b N7)).trans hd1
     have HTK:=AA htk
     have Hx:=AA hx
     have hk0:(0:Int)≤k:=by omega
     have hkc:k≤c6:=by omega
     have R5:Hid ((L2++(enc m.Aw.length++(m.Aw.take k).flatMap Jl)).length≤590194315000):=AA (by
      have h1:=Xh EU.out.num EU.out.sz m.Aw.length k hle
      have:=EU.out.sz
      have:=ADy.out
      rw [List.length_append];omega)
     have hz3:=M6.out.box.q 7 rfl
     have hzl:w.heap.size<wr.heap.size:=M6.out.box.lt
     clear hx hd0 hd1 htk hcap
     go_upto_region 32 with fail
     generalize hw3:wr.alloc _=w3
     have hb3:Below wr.heap.size wr w3:=by rw [←hw3];exact(Below.refl _ _).alloc (Nat.le_refl _) _
     have HB3:=AA (M6.out.zi hb3 (by rw [←hw3];simp))
     have NH:Hid (AQ w3 wr.heap.size 101 [.string x.n,.int .i64 x.f]):=by rw [←hw3];exact AA (AQ.new wr 101 [.string x.n,.int .i64 x.f])
     generalize hK2:(fun j=>K1 j∨j=wr.heap.size)=K2 at HB3
     have EI:Hid ((∀j,K1 j→K2 j)∧K2 wr.heap.size∧(∀j,K j→K2 j)∧K2 w.heap.size):=AA (by rw [←hK2];exact⟨fun j h=> .inl h,.inr rfl,fun j h=> .inl (HKK.out.1 j h),.inl HKK.out.2⟩)
     generalize Tg:L2++(enc m.Aw.length++(m.Aw.take k).flatMap Jl)=LL at*
     have Vr:=AA Tg
     clear hw3 hb3 hK2 hc0' hc1' Tg hz3
     have HST:=AA (fun W (hb:Below w3.heap.size w3 W)=>eD x.n hns (some ⟨b,o,none⟩) k c6 0 hi (m.Aw.take k) W (Rd.CB HTK.out (HB3.out.kp.trans (Keep.DC hb)) hhi (fun j _ h=>Md.out j h)) (by have:=DX (by decide) HX0.out;have:=of_decide_eq_true this;omega))
     have hm0:=NH.out.q 0 rfl
     have fA:=HB3.out.box.q 7 rfl
     go_still_tail 6,(by kernel_rfl)
     repeat still_step
     try refine wpStill_nil ?_
     change wpList _ _ _ _ _ w3.drew
     have hbd:Below w3.heap.size w3 w3.drew:=⟨rfl,rfl,rfl,Nat.le_refl _,fun _ _=>rfl⟩
     have Ct:=AA (HB3.out.ES hbd)
     have Qo:Hid (AQ w3.drew wr.heap.size 101 [.string x.n,.int .i64 x.f]):=AA NH.out
     have hst:=HST.out w3.drew hbd
     clear HST HB3 NH hm0 fA hbd
     generalize w3.drew=w4 at*
     go_wp2_with fail
     refine hst.mono ?_
     clear hst
     rintro e w5 ⟨hb5,hcase⟩
     have Dv:=AA (Ct.out.ES hb5);have QO:=AA (Qo.out.below hb5 Qo.out.lt)
     clear hb5 Ct Qo
     rcases hcase with⟨h0,rfl⟩ | ⟨h0,rfl⟩
     case inr=>
      have hX:Hid (EE=Cg (M_ x.n) (Ri (m.Aw.take k) k x.n)):=AA (by rw [←HE.out];exact U1 iZ.out wm.out HX0.out Me.out Hx.out h0 (by rw [RI Hx.out,Bn h0]))
      have HS:=AA h0;clear h0
      go_wp2_with fail
      exact⟨rfl,Dv.out.kp,.inr ⟨by rw [hX.out];exact HS.out,by rw [hX.out]⟩⟩
     have HS:=AA h0
     have hn32:x.n.size≤32:=of_decide_eq_true (DX (by decide) (AU (AU h0).1).1)
     clear h0
     have hm0:=QO.out.q 0 rfl
     have hct:=OQ x.n (by omega) Dv.out.hd (by have:=R5.out;omega) Dv.out.hb
     go_wp2_with fail
     refine hct.mono ?_
     clear hct
     rintro e w6 ⟨rfl,L8,hd6⟩
     have EL:=AA (Dv.out.to L8 hd6 EI.out.2.2.1 EI.out.2.2.2);have fB:=AA (QO.out.keep L8 EI.out.2.1)
     have hm1:=fB.out.q 1 rfl
     have hz5:=EL.out.box.q 5 rfl
     have hci:=Rv x.f m.fns.length hf6.2 EL.out.hd (by have:=R5.out;have:=F8 (s:=x.n) (by omega);rw [List.length_append];omega) EL.out.hb
     clear L8 hd6 Dv QO hm0 hn32
     generalize mR:Ab (decide (0≤x.f∧x.f<m.fns.length)) 30=v30 at hci
     have HV:=AA mR
     clear mR
     go_wp2_with fail
     refine hci.mono ?_
     clear hci
     rintro e w7 ⟨Xj,hcase⟩
     rcases hcase with⟨bX,rfl,hd7⟩ | ⟨bX,rfl⟩
     case inr=>
      have tY:=AA bX
      have vZ:=AA (EL.out.kp.trans (Xj.mono EI.out.2.2.1))
      have hX:Hid (EE=v30):=AA (by rw [←HE.out];exact U1 iZ.out wm.out HX0.out Me.out Hx.out bX (by rw [RI Hx.out,AX HS.out,HV.out]))
      clear bX Xj
      go_wp2_with fail
      exact⟨rfl,vZ.out,.inr ⟨by rw [hX.out];exact tY.out,by rw [hX.out]⟩⟩
     have HN:Hid (Aa (k+1) (PU m)=0):=AA (CQ Me.out (by rw [RI Hx.out,AX HS.out,HV.out,bX]))
     have Vq:Hid (Dy w w7 base g gs w.heap.size K K1 m (KH A1 A2 A3 A4 A5 (some ⟨b,o,none⟩) c1 c2 c3 c4 c5 c6 m) YO (L2++(enc m.Aw.length++(m.Aw.take (k+1)).flatMap Jl))):=AA (by
      have h:=(EL.out.to Xj hd7 EI.out.2.2.1 EI.out.2.2.2).less EI.out.1
      have he:LL++FM x.n++enc x.f.toNat=L2++(enc m.Aw.length++(m.Aw.take (k+1)).flatMap Jl):=by
       rw [EH Hx.out,←Vr.out]
       unfold Jl
       simp only [List.append_assoc]
      rw [he] at h
      exact h)
     clear Xj hd7 EL fB hm1 hz5 bX
     go_wp2_with fail
     exact⟨⟨k+1,by omega,by go_num,Vq.out,HN.out⟩,by simp [intOf];omega⟩
    ·obtain rfl:k=m.Aw.length:=by omega
     go_wp2_with fail
     go_end0
     have hX:EE=0:=by
      rw [←HE.out]
      unfold IE IZ
      rw [AX iZ.out,AX wm.out,AX HX0.out,Me.out]
     have h:=M6.out
     rw [List.take_length] at h
     refine⟨h.kp,.inl ⟨hX,rfl,YO,?_⟩⟩
     have hfin:L++Rj m=L2++(enc m.Aw.length++m.Aw.flatMap Jl):=by
      unfold Rj
      rw [←HL2.out,←oU.out]
      simp only [List.append_assoc]
     rw [hfin]
     exact h.hd.less HKK.out.1
end
theorem mU {m:AP} (h:IY m=0):(∀t∈m.types,t.p.size≤8)∧0≤m.first∧m.first≤64:=by
 obtain⟨ht,hh⟩:=AU h
 obtain⟨_,hh⟩:=AU hh
 obtain⟨_,hp⟩:=AU hh
 obtain⟨_,t2⟩:=AU ht
 have hp:=of_decide_eq_true (DX (by decide) hp)
 refine⟨fun t hm=> ?_,hp.1,by omega⟩
 obtain⟨k,hk⟩:=List.getElem?_of_mem hm
 have:=BP t2 k (List.getElem?_eq_some_iff.1 hk).1
 rw [Pj hk] at this
 have:=(Ew (AU this).1).1
 omega
def mV:Array Value:= #[.int .u8 70,.int .u8 76,.int .u8 71,.int .u8 78,.int .u8 1]
def KE (n:Nat) (k:Nat):Prop:=k<n+3∨k=n+5
theorem mW (w:World) (cs:Array Value) {W:World}
 (hW:((((((w.alloc (.cells cs 29)).alloc (.cells #[.slice none 0 0] 40)).alloc (.cells #[.int .i64 0] 41)).alloc (.cells mV 5 (5,6))).alloc (.cells #[.pointer none,.int .i64 0,.slice (some ⟨w.heap.size+1+1+1,0,none⟩) 5 5] 194)).alloc (.cells #[.int .i64 0] 3))=W):
 Below w.heap.size w W∧AQ W w.heap.size 29 cs.toList∧AQ W (w.heap.size+1) 40 [.slice none 0 0]∧AQ W (w.heap.size+1+1) 41 [.int .i64 0]∧AQ W (w.heap.size+1+1+1+1+1) 3 [.int .i64 0]∧
  Wr W w.heap.size (w.heap.size+1+1+1+1) (KE w.heap.size) (.pointer none) 0 Ll:=by
 have h0:=AQ.new w 29 cs.toList
 have h1:=AQ.new (w.alloc (.cells cs 29)) 40 [.slice none 0 0]
 have h2:=AQ.new ((w.alloc (.cells cs 29)).alloc (.cells #[.slice none 0 0] 40)) 41 [.int .i64 0]
 have h4:=AQ.new ((((w.alloc (.cells cs 29)).alloc (.cells #[.slice none 0 0] 40)).alloc (.cells #[.int .i64 0] 41)).alloc (.cells mV 5 (5,6))) 194 [.pointer none,.int .i64 0,.slice (some ⟨w.heap.size+1+1+1,0,none⟩) 5 5]
 have h5:=AQ.new (((((w.alloc (.cells cs 29)).alloc (.cells #[.slice none 0 0] 40)).alloc (.cells #[.int .i64 0] 41)).alloc (.cells mV 5 (5,6))).alloc (.cells #[.pointer none,.int .i64 0,.slice (some ⟨w.heap.size+1+1+1,0,none⟩) 5 5] 194)) 3 [.int .i64 0]
 have h3:=heap_alloc_new (((w.alloc (.cells cs 29)).alloc (.cells #[.slice none 0 0] 40)).alloc (.cells #[.int .i64 0] 41)) (.cells mV 5 (5,6))
 simp only [World.size_alloc] at h1 h2 h3 h4 h5
 have hs:W.heap.size=w.heap.size+6:=by rw [←hW];simp only [World.size_alloc]
 have h3':W.heap[w.heap.size+1+1+1]?=some (.cells mV 5 (5,6)):=by
  rw [←hW,heap_alloc_old _ _ (by simp only [World.size_alloc];omega),heap_alloc_old _ _ (by simp only [World.size_alloc];omega)]
  exact h3
 refine⟨?_,?_,?_,?_,?_,some ⟨w.heap.size+1+1+1,0,none⟩,5,?_,?_,by omega,?_,?_,?_⟩
 ·rw [←hW]
  exact(((((((Below.refl _ _).alloc (Nat.le_refl _) _).alloc (by simp only [World.size_alloc];omega) _).alloc (by simp only [World.size_alloc];omega) _).alloc (by simp only [World.size_alloc];omega) _).alloc (by simp only [World.size_alloc];omega) _).alloc (by simp only [World.size_alloc];omega) _)
 ·rw [←hW];exact((((h0.alloc _).alloc _).alloc _).alloc _).alloc _
 ·rw [←hW];exact(((h1.alloc _).alloc _).alloc _).alloc _
 ·rw [←hW];exact((h2.alloc _).alloc _).alloc _
 ·rw [←hW];exact h5
 ·rw [←hW];exact h4.alloc _
 ·exact .inr ⟨w.heap.size+1+1+1,(5,6),rfl,by omega,h3',rfl⟩
 ·unfold KE;omega
 ·intro k hk
  injection hk with hk
  have hk:w.heap.size+1+1+1=k:=hk
  unfold KE
  omega
 ·intro k hk
  unfold KE at hk
  omega
theorem Zz (cs:List Value) (hi:Nat) (m:AP) (w:World) (h:Db.R w 0 hi cs m) (hhi:hi≤w.heap.size) (hle:BU m≤2147483647) (Cr:Ev m)
 (htab: ∀w',Below hi w w'→Lib.TabIs prog w' "strings.asciiSpace" .u8 Lib.asciiSpaceTab):
 Calls prog 107 #[.agg cs.toArray] w fun e w'=>Below w.heap.size w w'∧ ∃v,e= .returned (.tuple #[v,.int .i64 (F9 m)]):=by
 have kc:=fun(v1 v2 v3 v4 v5 v6:Value)=>Lib.run_convert_bytes_const (P:=prog) (((w.alloc (.cells #[v1,v2,v3,.int .i64 m.first,.int .i64 m.most,v4,v5,v6] 29)).alloc (.cells #[.slice none 0 0] 40)).alloc (.cells #[.int .i64 0] 41)) 40 5 #[.int .u8 70,.int .u8 76,.int .u8 71,.int .u8 78,.int .u8 1] 5 5 underlying40 underlying5
 simp only [World.size_alloc] at kc
 have hmf: ∀(fn:Fn) (first cap:Array Value) (w:World),(Instr.makeFunc fn first cap).run prog w= .ok (.func fn first cap) w:=fun _ _ _ _=>rfl
 have H:=AA h;have HT:=AA htab;have HL:=AA hle;have HN:=AA Cr
 obtain⟨v1,v2,v3,v4,v5,v6,rfl,_⟩:=Av.1 h
 clear h htab hle Cr
 go_enter_defers func107,ntmps107
 go_upto_region 5 with fail
 generalize hw1:World.alloc _ _=w1
 obtain⟨i1,i2,i3,i4,i5,i6⟩:=mW w _ hw1
 have HB1:=AA i1;have CS:=AA i2;have HGB:=AA i3;have oM:=AA i4;have HGA:=AA i5;have HW1:=AA i6
 have hm0:=i2.q 0 rfl
 have hm1:=i2.q 1 rfl
 have hm2:=i2.q 2 rfl
 have Yi:=i2.q 3 rfl
 have VP:=i2.q 4 rfl
 have hm5:=i2.q 5 rfl
 have fA:=i2.q 6 rfl
 have hm7:=i2.q 7 rfl
 have hhead:=qU _ hi w.heap.size (w.heap.size+1+1+1+1) (KE w.heap.size) m Ll w1 (Db.below H.out i1 hhi) (Nat.le_trans hhi i1.size) (fun k hk=> .inl (by omega)) i6 i1.size HL.out HN.out (by decide)
 clear hw1 kc i1 i2 i3 i4 i5 i6
 generalize Td:IY m=EE at hhead
 have HE:=AA Td
 clear Td
 go_wp2_with fail
 refine hhead.mono ?_
 clear hhead
 rintro e w2 ⟨hk2,hcase⟩
 rcases hcase with⟨h0,rfl,gs,hd⟩ | ⟨h0,rfl⟩
 case inr=>
  have H0:=AA h0
  have hge:=oM.out.keep hk2 (.inl (by omega))
  have hgb:=HGB.out.keep hk2 (.inl (by omega))
  have hga:=HGA.out.keep hk2 (.inr rfl)
  have HB:=AA (HB1.out.trans ((hk2).below HB1.out.size fun k hk=> .inl (by omega)))
  go_wp2_with fail
  refine leaves_cons (f:=127) (args:= #[.pointer (some ⟨w.heap.size+1+1,0,none⟩),.pointer (some ⟨w.heap.size+1+1+1+1+1,0,none⟩)]) (by simp) (by simp [go_sem]) ?_
  refine(Kq (EE) 0 _ _ 0 0 _ hge hga (by omega)).mono ?_
  rintro e u' wx ⟨rfl,rfl,hkx,hbe,hba⟩
  have mX:=hgb.keep hkx (by omega)
  refine leaves_cons (f:=126) (args:= #[.pointer (some ⟨w.heap.size+1+1,0,none⟩),.pointer (some ⟨w.heap.size+1,0,none⟩)]) (by simp [settle]) (by simp [go_sem]) ?_
  refine(Ja _ _ _ (EE) _ _ hbe mX).mono ?_
  rintro e u' wy ⟨rfl,rfl,hky,hby⟩
  have hc1:=hby.cell 0
  have hc2:=(hbe.keep hky (by omega)).cell 0
  have hM:F9 m=EE:=by unfold F9 Jk;rw [HE.out,Bn (by rw [Bn h0];exact h0),Bn h0]
  have j6:=(HB.out.trans ((hkx.below (B:=w.heap.size) HB.out.size fun k hk=>by omega).trans (hky.below (B:=w.heap.size) (Nat.le_trans HB.out.size hkx.size) fun k hk=>by omega)))
  simp [Leaves,settle,results,results107,go_sem,hc1,hc2]
  exact⟨j6,hM.symm⟩
 have OA:Hid (IY m=0):=AA (HE.out.trans h0)
 have hin:=mU OA.out
 have GN:=AA hk2
 have hx2:=CS.out.keep hk2 (.inl (by omega))
 have hs1:=HB1.out.size
 have hlen:(Ll++NA m).length≤300000000000:=by
  have h1:=Uj HN.out HL.out (fun j x hj hx=>(Mc (AU (AU (AU (AU OA.out).2).2).1).2 j x hj hx).2)
  have h2:=HL.out
  rw [List.length_append]
  show 5+_≤_
  omega
 have hbody:=tX _ hi w.heap.size (w.heap.size+1+1+1+1) gs (KE w.heap.size) m (Ll++NA m) w2 (Rd.CB (Db.below H.out HB1.out hhi) hk2 (by omega) (fun j _ h=> .inl (by omega))) (by have:=hk2.size;omega) (fun k hk=> .inl (by omega)) hd (by have:=hk2.size;omega) ⟨HL.out,HN.out,hin.1,hin.2.1,hin.2.2⟩ hlen (fun w' hb=>HT.out w' ((HB1.out.mono hhi).trans ((hk2.below (B:=hi) (by omega) fun k hk=> .inl (by omega)).trans hb)))
 have hm0:=hx2.q 0 rfl
 have hm1:=hx2.q 1 rfl
 have hm2:=hx2.q 2 rfl
 have Yi:=hx2.q 3 rfl
 have VP:=hx2.q 4 rfl
 have hm5:=hx2.q 5 rfl
 have fA:=hx2.q 6 rfl
 have hm7:=hx2.q 7 rfl
 clear hd h0 hin hs1 hlen hk2 hx2
 generalize hE2:IE m=E2 at hbody
 have HE2:=AA hE2
 clear hE2
 go_wp2_with fail
 refine hbody.mono ?_
 clear hbody
 rintro e w3 ⟨hk3,hcase⟩
 have hk3:=GN.out.trans hk3
 rcases hcase with⟨h0,rfl,all,hd⟩ | ⟨h0,rfl⟩
 case inr=>
  have H0:=AA h0
  have hge:=oM.out.keep hk3 (.inl (by omega))
  have hgb:=HGB.out.keep hk3 (.inl (by omega))
  have hga:=HGA.out.keep hk3 (.inr rfl)
  have HB:=AA (HB1.out.trans ((hk3).below HB1.out.size fun k hk=> .inl (by omega)))
  go_wp2_with fail
  refine leaves_cons (f:=127) (args:= #[.pointer (some ⟨w.heap.size+1+1,0,none⟩),.pointer (some ⟨w.heap.size+1+1+1+1+1,0,none⟩)]) (by simp) (by simp [go_sem]) ?_
  refine(Kq (E2) 0 _ _ 0 0 _ hge hga (by omega)).mono ?_
  rintro e u' wx ⟨rfl,rfl,hkx,hbe,hba⟩
  have mX:=hgb.keep hkx (by omega)
  refine leaves_cons (f:=126) (args:= #[.pointer (some ⟨w.heap.size+1+1,0,none⟩),.pointer (some ⟨w.heap.size+1,0,none⟩)]) (by simp [settle]) (by simp [go_sem]) ?_
  refine(Ja _ _ _ (E2) _ _ hbe mX).mono ?_
  rintro e u' wy ⟨rfl,rfl,hky,hby⟩
  have hc1:=hby.cell 0
  have hc2:=(hbe.keep hky (by omega)).cell 0
  have hM:F9 m=E2:=by unfold F9 Jk;rw [OA.out,AX rfl,HE2.out,Bn h0]
  have j6:=(HB.out.trans ((hkx.below (B:=w.heap.size) HB.out.size fun k hk=>by omega).trans (hky.below (B:=w.heap.size) (Nat.le_trans HB.out.size hkx.size) fun k hk=>by omega)))
  simp [Leaves,settle,results,results107,go_sem,hc1,hc2]
  exact⟨j6,hM.symm⟩
 have HP:Hid (Jk m=0):=AA (by unfold Jk;rw [OA.out,AX rfl,HE2.out,h0])
 obtain⟨T,d,s1,⟨A,c,s2⟩,s3,s4,s5⟩:=hd
 have hmod:Ll++NA m++Rj m=J5 m:=by unfold J5;rw [List.append_assoc]
 rw [hmod] at s2
 have hg2:=s2.blk.q 2 rfl
 have GQ:=AA hk3
 clear s1 s2 s3 s4 s5 h0 hk3 hm0 hm1 hm2 Yi VP hm5 fA hm7
 have hdd:decide (((J5 m).length:Int)≤65536)=decide ((J5 m).length≤65536):=decide_eq_decide.2 (by omega)
 have HDD:=AA hdd
 clear hdd
 go_wp2_with fail
 refine(En _ 13 0 (by decide) _).mono ?_
 rintro e w4 ⟨rfl,hcase⟩
 rw [HDD.out] at hcase
 rcases hcase with⟨h0,rfl⟩ | ⟨h0,rfl⟩
 case inr=>
  have hge:=oM.out.keep GQ.out (.inl (by omega))
  have hgb:=HGB.out.keep GQ.out (.inl (by omega))
  have hga:=HGA.out.keep GQ.out (.inr rfl)
  have HB:=AA (HB1.out.trans ((GQ.out).below HB1.out.size fun k hk=> .inl (by omega)))
  go_wp2_with fail
  refine leaves_cons (f:=127) (args:= #[.pointer (some ⟨w.heap.size+1+1,0,none⟩),.pointer (some ⟨w.heap.size+1+1+1+1+1,0,none⟩)]) (by simp) (by simp [go_sem]) ?_
  refine(Kq (Ab (decide ((J5 m).length≤65536)) 13) 0 _ _ 0 0 _ hge hga (by omega)).mono ?_
  rintro e u' wx ⟨rfl,rfl,hkx,hbe,hba⟩
  have mX:=hgb.keep hkx (by omega)
  refine leaves_cons (f:=126) (args:= #[.pointer (some ⟨w.heap.size+1+1,0,none⟩),.pointer (some ⟨w.heap.size+1,0,none⟩)]) (by simp [settle]) (by simp [go_sem]) ?_
  refine(Ja _ _ _ (Ab (decide ((J5 m).length≤65536)) 13) _ _ hbe mX).mono ?_
  rintro e u' wy ⟨rfl,rfl,hky,hby⟩
  have hc1:=hby.cell 0
  have hc2:=(hbe.keep hky (by omega)).cell 0
  have hM:F9 m=Ab (decide ((J5 m).length≤65536)) 13:=by unfold F9;rw [HP.out,AX rfl]
  have j6:=(HB.out.trans ((hkx.below (B:=w.heap.size) HB.out.size fun k hk=>by omega).trans (hky.below (B:=w.heap.size) (Nat.le_trans HB.out.size hkx.size) fun k hk=>by omega)))
  simp [Leaves,settle,results,results107,go_sem,hc1,hc2]
  exact⟨j6,hM.symm⟩
 have HM:Hid (F9 m=0):=AA (by unfold F9;rw [HP.out,AX rfl,h0])
 have hge:=oM.out.keep GQ.out (.inl (by omega))
 have hgb:=HGB.out.keep GQ.out (.inl (by omega))
 have hcb:=hgb.cell 0
 have hce:=hge.cell 0
 have mI:=hgb.frozen 0
 have hfe:=hge.frozen 0
 have hlb:=hgb.lt
 have hle:=hge.lt
 have HB:=AA (HB1.out.trans (GQ.out.below HB1.out.size fun k hk=> .inl (by omega)))
 have Hge:=AA hge;have Hgb:=AA hgb
 clear hge hgb h0
 go_wp2_with fail
 generalize Pn:World.setCell _ _ _=w5
 have hbe:AQ w5 (w.heap.size+1+1) 41 [.int .i64 0]:=by
  rw [←Pn];exact(Hge.out.far (p:=⟨w.heap.size+1,0,none⟩) (by show w.heap.size+1+1≠w.heap.size+1;omega) _).set 0 _
 have hbb:AQ w5 (w.heap.size+1) 40 [.slice A (J5 m).length c]:=by
  rw [←Pn];exact(Hgb.out.set 0 _).far (p:=⟨w.heap.size+1+1,0,none⟩) (by show w.heap.size+1≠w.heap.size+1+1;omega) _
 have hb5:Below w.heap.size w w5:=by rw [←Pn];exact(HB.out.setCell (by show w.heap.size≤w.heap.size+1;omega) _).setCell (by show w.heap.size≤w.heap.size+1+1;omega) _
 refine leaves_cons (f:=127) (args:= #[.pointer (some ⟨w.heap.size+1+1,0,none⟩),.pointer (some ⟨w.heap.size+1+1+1+1+1,0,none⟩)]) (by simp) (by simp [go_sem]) ?_
 refine(XT _ _ _).mono ?_
 rintro e u' wx ⟨rfl,rfl,rfl⟩
 refine leaves_cons (f:=126) (args:= #[.pointer (some ⟨w.heap.size+1+1,0,none⟩),.pointer (some ⟨w.heap.size+1,0,none⟩)]) (by simp [settle]) (by simp [go_sem]) ?_
 refine(Ja _ _ _ 0 _ _ hbe hbb).mono ?_
 rintro e u' wy ⟨rfl,rfl,hky,hby⟩
 have hc1:=hby.cell 0
 have hc2:=(hbe.keep hky (by omega)).cell 0
 have hM:=HM.out
 have j6:=hb5.trans (hky.below (B:=w.heap.size) hb5.size fun k hk=>by omega)
 simp [Leaves,settle,results,results107,go_sem,hc1,hc2]
 exact⟨j6,hM.symm⟩
theorem gy (cs:List Value) (hi:Nat) (m:AP) (w:World) (h:Db.R w 0 hi cs m) (hhi:hi≤w.heap.size) (hle:BU m≤2147483647) (Cr:Ev m)
 (htab: ∀w',Below hi w w'→Lib.TabIs prog w' "strings.asciiSpace" .u8 Lib.asciiSpaceTab):
 Calls prog 77 #[.agg cs.toArray] w fun e w'=>Below w.heap.size w w'∧e= .returned (.int .i64 (F9 m)):=by
 have hb1:Below w.heap.size w (w.alloc (.cells cs.toArray 29)):=(Below.refl _ _).alloc (Nat.le_refl _) _
 have hen:=Zz cs hi m (w.alloc (.cells cs.toArray 29)) (Db.below h hb1 hhi) (by simp only [World.size_alloc];omega) hle Cr (fun w' hb=>htab w' ((hb1.mono hhi).trans hb))
 obtain⟨v1,v2,v3,v4,v5,v6,rfl,_⟩:=Av.1 h
 have hm0:=(AQ.new w 29 [v1,v2,v3,.int .i64 m.first,.int .i64 m.most,v4,v5,v6]).q 0 rfl
 have hm1:=(AQ.new w 29 [v1,v2,v3,.int .i64 m.first,.int .i64 m.most,v4,v5,v6]).q 1 rfl
 have hm2:=(AQ.new w 29 [v1,v2,v3,.int .i64 m.first,.int .i64 m.most,v4,v5,v6]).q 2 rfl
 have Yi:=(AQ.new w 29 [v1,v2,v3,.int .i64 m.first,.int .i64 m.most,v4,v5,v6]).q 3 rfl
 have VP:=(AQ.new w 29 [v1,v2,v3,.int .i64 m.first,.int .i64 m.most,v4,v5,v6]).q 4 rfl
 have hm5:=(AQ.new w 29 [v1,v2,v3,.int .i64 m.first,.int .i64 m.most,v4,v5,v6]).q 5 rfl
 have fA:=(AQ.new w 29 [v1,v2,v3,.int .i64 m.first,.int .i64 m.most,v4,v5,v6]).q 6 rfl
 have hm7:=(AQ.new w 29 [v1,v2,v3,.int .i64 m.first,.int .i64 m.most,v4,v5,v6]).q 7 rfl
 have HB1:=AA hb1
 clear h hb1
 go_enter func77,ntmps77
 go_wp2_with fail
 refine hen.mono ?_
 clear hen
 rintro e w2 ⟨hb2,v,rfl⟩
 go_wp2_with fail
 go_ret
 exact⟨HB1.out.trans (hb2.mono (by simp only [World.size_alloc];omega)),rfl⟩
theorem Ow:(prog.info? 107).map (fun i=>(i.size,i.bytes,i.zero.map fun z=>z.cells.size))=some (5,104,some 5):=by kernel_rfl
def mY (m:AP) (w:World) (e:Ending) (w':World):Prop:=Below w.heap.size w w'∧match FE m with
 | .inl q=>e= .returned (.tuple #[.slice none 0 0,.int .i64 q.1,.int .i64 q.2.1,.int .i64 q.2.2])
 | .inr t=> ∃A c,e= .returned (.tuple #[.slice A t.length c,.int .i64 0,.int .i64 0,.int .i64 0])∧(NU.sl false).R w' w.heap.size w'.heap.size [.slice A t.length c] t
def xA (m:AP) (mc:List Value) (w:World) (a i:Value) (wr:World):Prop:= ∃(k:Nat) (A:Option Addr) (c:Nat) (cells:List Value) (acc:List D5),k≤m.fns.length∧i= .int .i64 k∧a= .slice A k c∧Fu NU 107 (w.heap.size+1) wr A k c cells acc∧Below w.heap.size w wr∧AQ wr w.heap.size 29 mc∧
 JA m (m.fns.length-k) acc=JA m m.fns.length []
theorem Je {m:AP} {k:Nat} {f:Bt} {acc:List D5} (hk:k<m.fns.length) (hf:m.fns[k]?=some f):JA m (m.fns.length-k) acc=match Fv m f with
 | .inl e=> .inl (e.1,(k:Int),e.2)
 | .inr t=>JA m (m.fns.length-(k+1)) (acc++ [t]):=by
 obtain⟨d,hd⟩: ∃d,m.fns.length-k=d+1:=⟨m.fns.length-k-1,by omega⟩
 have hk2:m.fns.length-(d+1)=k:=by omega
 rw [hd,show m.fns.length-(k+1)=d by omega]
 simp only [JA,hk2,hf]
 cases Fv m f<;>rfl
theorem U2 (cs:List Value) (hi:Nat) (m:AP) (w:World) (h:Db.R w 0 hi cs m) (hhi:hi≤w.heap.size) (hle:BU m≤2147483647) (Cr:Ev m)
 (htab: ∀w',Below hi w w'→Lib.TabIs prog w' "strings.asciiSpace" .u8 Lib.asciiSpaceTab):
 Calls prog 51 #[.agg cs.toArray] w fun e w'=>mY m w e w':=by
 have H:=AA h;have HT:=AA htab;have GZ:=AA hle;have HN:=AA Cr
 obtain⟨i0,z0,hi0,hz,hs',hb,hzz⟩:=info_parts' Ow
 have Hi:=AA hi0;have Hz:=AA hz;have Hs:=AA hs';have Hb:=AA hb;have M5:=AA hzz;clear hi0 hz hs' hb hzz
 obtain⟨v1,v2,v3,v4,v5,v6,rfl,_,_,_,_,_,h5,_,_⟩:=Av.1 h
 obtain⟨A5,c5,rfl⟩:=AJ h5
 clear h htab hle Cr h5
 go_enter func51,ntmps51
 go_upto_region 1 with fail
 generalize hw1:w.alloc (.cells #[v1,v2,v3,.int .i64 m.first,.int .i64 m.most,.slice A5 m.fns.length c5,v5,v6] 29)=w1
 have HB1:Hid (Below w.heap.size w w1):=AA (by rw [←hw1];exact(Below.refl _ _).alloc (Nat.le_refl _) _)
 have PI:Hid (AQ w1 w.heap.size 29 [v1,v2,v3,.int .i64 m.first,.int .i64 m.most,.slice A5 m.fns.length c5,v5,v6]):=AA (by rw [←hw1];exact AQ.new w 29 _)
 have q0:=PI.out.q 0 rfl
 have q1:=PI.out.q 1 rfl
 have q2:=PI.out.q 2 rfl
 have q3:=PI.out.q 3 rfl
 have q4:=PI.out.q 4 rfl
 have q5:=PI.out.q 5 rfl
 have q6:=PI.out.q 6 rfl
 have q7:=PI.out.q 7 rfl
 clear hw1
 go_wp2_with fail
 refine(gy _ hi m w1 (Rd.below H.out HB1.out hhi) (Nat.le_trans hhi HB1.out.size) GZ.out HN.out (fun w' hw'=>HT.out w' ((HB1.out.mono hhi).trans hw'))).mono ?_
 rintro e w2 ⟨hb2,rfl⟩
 have HB2:=AA (HB1.out.trans (hb2.mono HB1.out.size))
 have Yo:=AA (PI.out.below hb2 PI.out.lt)
 clear q0 q1 q2 q3 q4 q5 q6 q7 hb2
 by_cases hmo:F9 m=0
 ·have Wx:=AA hmo
  have Iw:=AA (VQ hmo)
  have p5:=Yo.out.q 5 rfl
  rw [hmo]
  clear hmo
  go_wp2_with fail
  go_loopw [7,20] (fun a i wr=>xA m [v1,v2,v3,.int .i64 m.first,.int .i64 m.most,.slice A5 m.fns.length c5,v5,v6] w a i wr) (fun _ i _=>m.fns.length-(intOf i).toNat)
  case atStart=>exact⟨0,none,0,[],[],Nat.zero_le _,rfl,rfl,Fu.nil _ _ _ _,HB2.out,Yo.out,rfl⟩
  case round=>
   obtain⟨k,A1,c1,cells,acc,hk,rfl,rfl,hg,hbel,hmb,hgo⟩:=hrel
   have Hg:=AA hg;have CP:=AA hbel;have Qa:=AA hmb;have RH:=AA hgo
   clear hg hbel hmb hgo p5
   by_cases hlt:k<m.fns.length
   ·obtain⟨f,hf⟩: ∃f,m.fns[k]?=some f:=⟨_,List.getElem?_eq_getElem hlt⟩
    have HF:=AA hf
    clear hf
    have hk0:(0:Int)≤k:=by omega
    have q0:=Qa.out.q 0 rfl
    have q1:=Qa.out.q 1 rfl
    have q2:=Qa.out.q 2 rfl
    have q3:=Qa.out.q 3 rfl
    have q4:=Qa.out.q 4 rfl
    have q5:=Qa.out.q 5 rfl
    have q6:=Qa.out.q 6 rfl
    have q7:=Qa.out.q 7 rfl
    go_wp2_with fail
    refine(YI _ hi m k f wr (Rd.below H.out CP.out hhi) (Nat.le_trans hhi CP.out.size) Iw.out HF.out (fun w' hw'=>HT.out w' ((CP.out.mono hhi).trans hw'))).mono ?_
    rintro e w3 ⟨hb3,hp3⟩
    clear q0 q1 q2 q3 q4 q5 q6 q7
    have HB3:=AA hb3
    cases JN:Fv m f with
    | inl q=>
     rw [JN] at hp3
     dsimp only [Nv] at hp3
     subst hp3
     have SQ:=AA JN
     have hne:(q.1 !=0)=true:=by have:=Rn JN;simpa using this
     clear JN hb3
     go_wp2_with fail
     refine⟨rfl,.tuple #[.slice none 0 0,.int .i64 q.1,.int .i64 k,.int .i64 q.2],by simp [results,results51,go_sem],(CP.out.trans (HB3.out.mono CP.out.size)).alloc (Nat.le_trans CP.out.size HB3.out.size) _,?_⟩
     have hv:FE m= .inl (q.1,(k:Int),q.2):=by
      unfold FE
      rw [if_neg (by rw [Wx.out];simp),←RH.out,Je hlt HF.out,SQ.out]
     rw [hv]
    | inr tb=>
     rw [JN] at hp3
     obtain⟨cs',rfl,hr2⟩:=hp3
     obtain⟨u0,u1,u2,u3,rfl,g0,g1,g2,g3,_⟩:=Lc.1 hr2
     obtain⟨B0,d0,rfl⟩:=AJ g0
     obtain⟨B1,d1,rfl⟩:=AJ g1
     obtain⟨B2,d2,rfl⟩:=AJ g2
     obtain⟨B3,d3,rfl⟩:=AJ g3
     have HR2:=AA hr2
     have SQ:=AA JN
     clear JN hb3 hr2 g0 g1 g2 g3
     go_upto_region 11 with fail
     generalize hw4:w3.alloc (.cells #[.slice B0 tb.shapes.length d0,.slice B1 tb.ends.length d1,.slice B2 tb.AB.length d2,.slice B3 tb.floors.length d3,.int .i64 tb.high] 107)=w4
     have hb4:Below w3.heap.size w3 w4:=by rw [←hw4];exact(Below.refl _ _).alloc (Nat.le_refl _) _
     have Ob:Hid (AQ w4 w3.heap.size 107 [.slice B0 tb.shapes.length d0,.slice B1 tb.ends.length d1,.slice B2 tb.AB.length d2,.slice B3 tb.floors.length d3,.int .i64 tb.high]):=AA (by rw [←hw4];exact AQ.new w3 107 _)
     have Ct:Hid (Below wr.heap.size wr w4):=AA (HB3.out.trans (hb4.mono HB3.out.size))
     have HR4:=AA (NU.below HR2.out hb4 (Nat.le_refl _))
     have t_:=AA hb4.size
     clear hw4 hb4
     have WE:=AA (Hg.out.below Ct.out)
     have WZ:w.heap.size+1≤wr.heap.size:=Qa.out.lt
     have hsz4:w.heap.size+1≤w4.heap.size:=Nat.le_trans WZ Ct.out.size
     have J_:m.fns.length≤128:=Iw.out.nf
     have t0:=Ob.out.q 0 rfl
     have t1:=Ob.out.q 1 rfl
     have t2:=Ob.out.q 2 rfl
     have t3:=Ob.out.q 3 rfl
     have t4:=Ob.out.q 4 rfl
     have GL:=AA (JY w4 [.slice B0 tb.shapes.length d0,.slice B1 tb.ends.length d1,.slice B2 tb.AB.length d2,.slice B3 tb.floors.length d3,.int .i64 tb.high] 107)
     go_wp2_with (at_builtin;refine BL _ rfl (.tmp 35) (.tmp 37) 56 rfl (w.heap.size+1) 107 i0 z0 5 104 underlying56 Hi.out Hz.out Hs.out Hb.out M5.out (by omega) (.slice A1 k c1) k cells rfl (WE.out.own.alloc _) (w4.heap.size+1) _ 1 1 [.slice B0 tb.shapes.length d0,.slice B1 tb.ends.length d1,.slice B2 tb.AB.length d2,.slice B3 tb.floors.length d3,.int .i64 tb.high] rfl rfl GL.out (by intro u hu;simp at hu;rcases hu with rfl | rfl | rfl | rfl | rfl<;>rfl) (by unfold maxLen;omega) (by omega) (by simp;omega) ?_;intro A6 c6 w6 h2 h3 h4;have H2:=AA h2;have H3:=AA h3;have H4:=AA h4)
     have hba:Below w4.heap.size w4 (w4.alloc (.cells #[.slice B0 tb.shapes.length d0,.slice B1 tb.ends.length d1,.slice B2 tb.AB.length d2,.slice B3 tb.floors.length d3,.int .i64 tb.high] 107)):=(Below.refl _ _).alloc (Nat.le_refl _) _
     have Sz:=BG (WE.out.own.alloc (.cells #[.slice B0 tb.shapes.length d0,.slice B1 tb.ends.length d1,.slice B2 tb.AB.length d2,.slice B3 tb.floors.length d3,.int .i64 tb.high] 107)) H3.out (by simp;omega)
     have hgn:=(WE.out.below hba).snoc (by simp;omega) (NU.below HR4.out hba t_.out) WZ (by simp;have:=t_.out;omega) (fun g hg=> .inl (Hg.out.own.lt g hg).2) H2.out H3.out H4.out
     have hb6:Below wr.heap.size wr (w4.alloc (.cells #[.slice B0 tb.shapes.length d0,.slice B1 tb.ends.length d1,.slice B2 tb.AB.length d2,.slice B3 tb.floors.length d3,.int .i64 tb.high] 107)):=Ct.out.trans (hba.mono Ct.out.size)
     have fA:=(Qa.out.below hb6 Qa.out.lt).below Sz (Nat.lt_succ_self _)
     refine⟨⟨k+1,A6,c6,cells++ [.slice B0 tb.shapes.length d0,.slice B1 tb.ends.length d1,.slice B2 tb.AB.length d2,.slice B3 tb.floors.length d3,.int .i64 tb.high],acc++ [tb],by omega,by go_num,rfl,hgn,(CP.out.trans (hb6.mono CP.out.size)).trans (Sz.mono (Nat.le_succ _)),fA,?_⟩,by simp [intOf];omega⟩
     rw [←RH.out,Je hlt HF.out,SQ.out]
   ·obtain rfl:m.fns.length=k:=by omega
    go_wp2_with fail
    refine⟨rfl,.tuple #[.slice A1 m.fns.length c1,.int .i64 0,.int .i64 0,.int .i64 0],by simp [results,results51,go_sem],CP.out,?_⟩
    have hv:FE m= .inr acc:=by
     unfold FE
     rw [if_neg (by rw [Wx.out];simp),←RH.out,Nat.sub_self]
     rfl
    rw [hv]
    have hl:=Hg.out.len
    refine⟨A1,c1,by rw [←hl],?_⟩
    rw [←hl]
    exact Rd.more _ (Nat.le_succ _) (Nat.le_refl _) Hg.out.reads
 ·have hne:(F9 m !=0)=true:=by simpa using hmo
  go_wp2_with fail
  refine⟨rfl,.tuple #[.slice none 0 0,.int .i64 (F9 m),.int .i64 (-1),.int .i64 0],by simp [results,results51,go_sem],HB2.out,?_⟩
  have hv:FE m= .inl (F9 m,-1,0):=by unfold FE;rw [if_pos hmo]
  rw [hv]
end Go.Proofs.YtlagonfamllgjaaGreatDoor
