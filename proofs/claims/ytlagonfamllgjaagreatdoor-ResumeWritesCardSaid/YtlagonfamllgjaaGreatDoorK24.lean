/- Part 24 of the proof: FrmB FrmC FrmD -/
import Derived.Test.YtlagonfamllgjaaGreatDoorK23
namespace Go.Proofs.YtlagonfamllgjaaGreatDoor
set_option linter.unusedVariables false
set_option linter.unusedSimpArgs false
set_option maxRecDepth 100000
set_option maxHeartbeats 4000000
open Go.RowKit Tryz
theorem Z_ (cs ds:List Value) (vt:Value) (hi:Nat) (m:AP) (s:FH) (w:World) (hm:DJ.R w 0 hi cs m) (hs:K7.R w 0 hi ds s) (hhi:hi≤w.heap.size) (hng:m.globs.length≤64):
 Calls prog 99 #[.agg (cs++vt::ds).toArray] w fun e w'=>Below w.heap.size w w'∧e= .returned (.bool (Ct m s 6)):=by
 rw [show Ct m s 6=Cz m.globs s.globs from rfl]
 obtain⟨R,hR⟩: ∃R,Cz m.globs s.globs=R:=⟨_,rfl⟩
 rw [hR]
 have HR:=AA hR
 clear hR
 obtain⟨v1,v2,v3,v4,v5,v6,rfl,_,_,h2,hf3,Xj,_⟩:=Am.1 hm
 obtain⟨u0,u1,u2,u5,rfl,_,s1,s2,sr,_,_,_,su⟩:=CU.1 hs
 obtain⟨A2,c2,rfl⟩:=AB h2
 obtain⟨B1,d1,rfl⟩:=AB s1
 obtain⟨B2,d2,rfl⟩:=AB s2
 have H2:=AA h2;have Bw:=AA hhi;have S1:=AA s1;have S2:=AA s2
 unfold Rd.G8 at hf3 Xj sr su
 clear hm hs h2 s1 s2 hhi
 change Calls prog 99 #[.agg #[v1,v2,.slice A2 m.globs.length c2,.int .i64 m.first,.int .i64 m.most,v4,v5,v6,vt,u0,.slice B1 s.globs.length d1,.slice B2 s.pages.length d2,.int .i64 s.Bj,.int .i8 s.end_,u5,.int .i8 s.trap,.int .i64 s.used]] w _
 go_enter func99,ntmps99
 go_upto_region 1 with fail
 generalize hw1:w.alloc (.cells #[v1,v2,.slice A2 m.globs.length c2,.int .i64 m.first,.int .i64 m.most,v4,v5,v6,vt,u0,.slice B1 s.globs.length d1,.slice B2 s.pages.length d2,.int .i64 s.Bj,.int .i8 s.end_,u5,.int .i8 s.trap,.int .i64 s.used] 127)=w1
 obtain⟨hb1,hx1⟩:=ES hw1
 have HB1:=AA hb1;have CX:=AA hx1
 clear hw1 hb1 hx1
 have q2:=CX.out.q 2 rfl
 have q10:=CX.out.q 10 rfl
 by_cases hgl:s.globs.length=m.globs.length
 case neg=>
  have k3:((s.globs.length:Int) !=(m.globs.length:Int))=true:=by rw [bne_iff_ne];omega
  have k3n:(s.globs.length !=m.globs.length)=true:=by rw [bne_iff_ne];exact hgl
  have HX:Hid (R=false):=AA (by rw [←HR.out];exact JC (fun e=>hgl e.symm))
  clear hgl
  go_wp2_with fail
  go_ret
  exact⟨HB1.out,by rw [HX.out];rfl⟩
 have k3:((s.globs.length:Int) !=(m.globs.length:Int))=false:=by rw [bne_eq_false_iff_eq];omega
 have k3n:(s.globs.length !=m.globs.length)=false:=by rw [bne_eq_false_iff_eq];exact hgl
 have HGL:=AA hgl
 have hglI:(s.globs.length:Int)≤m.globs.length∧(m.globs.length:Int)≤s.globs.length:=by omega
 have hglN:m.globs.length≤s.globs.length∧s.globs.length≤m.globs.length:=by omega
 clear hgl
 go_wp2_with fail
 clear q2 q10 k3 k3n
 go_loopw [3,4,18] (fun _ _ i wr=> ∃k:Nat,k≤m.globs.length∧i= .int .i64 k∧Cz (m.globs.drop k) (s.globs.drop k)=Cz m.globs s.globs∧Below w1.heap.size w1 wr) (fun _ _ i _=>m.globs.length-(intOf i).toNat)
 case atStart=>exact⟨0,Nat.zero_le _,rfl,rfl,Below.refl _ _⟩
 case round=>
  obtain⟨k,hk,rfl,hfit,hbr⟩:=hrel
  have V7:=AA hfit;have JG:=AA hbr
  have EP:Hid (Below w.heap.size w wr):=AA (HB1.out.trans (hbr.mono HB1.out.size))
  have L9:=AA (CX.out.below hbr CX.out.lt)
  clear hfit hbr
  by_cases hlt:k<m.globs.length
  ·obtain⟨v,hv⟩: ∃v,s.globs[k]?=some v:=⟨_,List.getElem?_eq_getElem (by omega)⟩
   obtain⟨x,hx⟩: ∃x,m.globs[k]?=some x:=⟨_,List.getElem?_eq_getElem hlt⟩
   obtain⟨b,o,eA,_,hbb,g0,g1,g2,x64⟩:=Eh H2.out hx
   subst eA
   obtain⟨b',o',eB,_,Sq,cs',hc',hr'⟩:=DC S1.out hv
   subst eB
   obtain⟨rfl,v64⟩:=hr'
   have f0:w.cell? ⟨b',o'+k,none⟩=some (.int .u64 (v:Int)):=by have:=hc' 0 _ rfl;simpa [Rd.u64,Rd.one,uv] using this
   have lb:b<w.heap.size:=Nat.lt_of_lt_of_le hbb Bw.out
   have lb':b'<w.heap.size:=Nat.lt_of_lt_of_le Sq Bw.out
   have e0:=(EP.out.cell lb (p:=⟨b,o+k*3,none⟩)).trans g0
   have e1:=(EP.out.cell lb (p:=⟨b,o+k*3+1,none⟩)).trans g1
   have e2:=(EP.out.cell lb (p:=⟨b,o+k*3+2,none⟩)).trans g2
   have hk0:(0:Int)≤k:=by omega
   have hk1:(k:Int)<s.globs.length:=by omega
   have hk2:(k:Int)<m.globs.length:=by omega
   have mR:=AA (Qi hx hv)
   have HL:Hid (∀W,Calls prog 119 #[.int .u64 (v:Int),.int .u8 (x.l.toNat:Int)] W fun e w'=>W=w'∧e= .returned (.bool (Dr v x.l.toNat))):=AA (fun W=>OI v x.l.toNat x.l.toNat_lt W)
   have HBAD:Hid (FB x v=false→R=false):=AA (fun h=>by
    rw [←HR.out,←V7.out,mR.out,h];rfl)
   have YE:Hid (FB x v=true→Cz (m.globs.drop (k+1)) (s.globs.drop (k+1))=Cz m.globs s.globs):=AA (fun h=>by rw [←V7.out,mR.out,h,Bool.true_and])
   unfold Rd.XK at x64 v64
   clear hx hv g0 g1 g2 hc' hbb Sq
   go_upto_region 6 with fail
   generalize hwg:wr.alloc (.cells #[.int .u8 (x.l.toNat:Int),.bool x.m,.int .u64 (x.v:Int)] 139)=wg
   obtain⟨hbg,hgx⟩:=ES hwg
   have jW:Hid (Below w.heap.size w wg):=AA (EP.out.trans (hbg.mono EP.out.size))
   have mU:Hid (Below w1.heap.size w1 wg):=AA (JG.out.trans (hbg.mono JG.out.size))
   have q10':=(L9.out.below hbg L9.out.lt).q 10 rfl
   have f0':=(jW.out.cell lb' (p:=⟨b',o'+k,none⟩)).trans f0
   have t0:=hgx.q 0 rfl
   have t1:=hgx.q 1 rfl
   have t2:=hgx.q 2 rfl
   clear hwg hbg hgx e0 e1 e2 f0
   cases hft:Dr v x.l.toNat with
   | false=>
    have HX:Hid (R=false):=AA (HBAD.out (by unfold FB;rw [hft];rfl))
    rw [hft] at HL
    clear hft
    go_quiet ((go_at_call 119;first | exact BA (HL.out _) | exact BF (HL.out _)))
    go_wp2_with fail
    go_ret
    exact⟨below_drewN jW.out _,by rw [HX.out];rfl⟩
   | true=>
    cases hxm:x.m with
    | true=>
     have HG:=AA (YE.out (by unfold FB;rw [hft,hxm];rfl))
     rw [hft] at HL
     rw [hxm] at t1
     clear hft hxm
     go_quiet ((go_at_call 119;first | exact BA (HL.out _) | exact BF (HL.out _)))
     go_wp2_with fail
     exact⟨⟨k+1,by omega,by go_num,HG.out,below_drewN mU.out _⟩,by simp [intOf];omega⟩
    | false=>
     by_cases hvv:v=x.v
     ·have HG:=AA (YE.out (by unfold FB;rw [hft,hxm,hvv];simp))
      have n1:((v:Int) !=(x.v:Int))=false:=by rw [bne_eq_false_iff_eq];omega
      have n2:(v !=x.v)=false:=by rw [bne_eq_false_iff_eq];exact hvv
      rw [hft] at HL
      rw [hxm] at t1
      clear hft hxm hvv
      go_quiet ((go_at_call 119;first | exact BA (HL.out _) | exact BF (HL.out _)))
      go_wp2_with fail
      exact⟨⟨k+1,by omega,by go_num,HG.out,below_drewN mU.out _⟩,by simp [intOf];omega⟩
     ·have HX:Hid (R=false):=AA (HBAD.out (by unfold FB;rw [hft,hxm,decide_eq_false hvv];rfl))
      have n1:((v:Int) !=(x.v:Int))=true:=by rw [bne_iff_ne];omega
      have n2:(v !=x.v)=true:=by rw [bne_iff_ne];exact hvv
      rw [hft] at HL
      rw [hxm] at t1
      clear hft hxm hvv
      go_quiet ((go_at_call 119;first | exact BA (HL.out _) | exact BF (HL.out _)))
      go_wp2_with fail
      go_ret
      exact⟨below_drewN jW.out _,by rw [HX.out];rfl⟩
  ·have HX:Hid (R=true):=AA (by
    rw [←HR.out,←V7.out,List.drop_of_length_le (by omega),List.drop_of_length_le (by omega)];rfl)
   have n1:decide ((k:Int)<m.globs.length)=false:=decide_eq_false (by omega)
   go_wp2_with fail
   go_ret
   exact⟨EP.out,by rw [HX.out];rfl⟩
theorem nA (A:Option Addr) (n c:Nat) (w:World):Calls prog 121 #[.slice A n c] w fun e w'=>w=w'∧e= .returned (.bool (!decide (n=4096))):=by
 by_cases h:n=4096
 ·subst h
  go_enter func121,ntmps121
  go_wp2_with fail
  go_ret
  exact⟨rfl,rfl⟩
 ·have n1:((n:Int) !=4096)=true:=by rw [bne_iff_ne];omega
  have HX:Hid ((!decide (n=4096))=true):=AA (by rw [decide_eq_false h];rfl)
  clear h
  go_enter func121,ntmps121
  go_wp2_with fail
  go_ret
  exact⟨rfl,by rw [HX.out];rfl⟩
def Lu (l:List (List UInt8)):Bool:=l.all (fun p=>decide (p.length=4096))
theorem nC {l:List (List UInt8)} {k:Nat} {p:List UInt8} (h:l[k]?=some p):Lu (l.drop k)=(decide (p.length=4096)&&Lu (l.drop (k+1))):=by
 obtain⟨h1,rfl⟩:=List.getElem?_eq_some_iff.1 h
 rw [List.drop_eq_getElem_cons h1];rfl
theorem nD (A:Option Addr) (c hi:Nat) (l:List (List UInt8)) (w:World) (h:((Rd.u8.sl false).sl false).R w 0 hi [.slice A l.length c] l) (hl:l.length≤140737488351232):
 Calls prog 149 #[.slice A l.length c,.func (.func 121) #[] #[]] w fun e w'=>w=w'∧ ∃i:Int,e= .returned (.int .i64 i)∧decide (0≤i)= !Lu l:=by
 have H:=AA h
 clear h
 go_enter func149,ntmps149
 go_wp2_with fail
 go_loop [5,8] (fun _ i=> ∃k:Nat,k≤l.length∧i= .int .i64 k∧Lu (l.drop k)=Lu l) (fun _ i=>l.length-(intOf i).toNat)
 case atStart=>exact⟨0,Nat.zero_le _,rfl,rfl⟩
 case round=>
  obtain⟨k,hk,rfl,hall⟩:=hrel
  have HA:=AA hall
  clear hall
  by_cases hlt:k<l.length
  ·obtain⟨p,hp⟩: ∃p,l[k]?=some p:=⟨_,List.getElem?_eq_getElem hlt⟩
   obtain⟨b,o,eA,_,_,cs',hc',hr'⟩:=DC H.out hp
   subst eA
   obtain⟨A',c',rfl,_⟩:=hr'
   have f0:w.cell? ⟨b,o+k,none⟩=some (.slice A' p.length c'):=by have:=hc' 0 _ rfl;simpa [Rd.sl] using this
   have HST:=AA (nC hp)
   have hk0:(0:Int)≤k:=by omega
   have hk1:(k:Int)<l.length:=by omega
   have HC:=AA (nA A' p.length c' w)
   clear hp hc'
   go_wp2_with fail
   refine HC.out.mono ?_
   rintro e w' ⟨rfl,rfl⟩
   by_cases jd:p.length=4096
   ·rw [decide_eq_true jd]
    have HG:Hid (Lu (l.drop (k+1))=Lu l):=AA (by rw [←HA.out,HST.out,decide_eq_true jd,Bool.true_and])
    clear jd
    go_wp2_with fail
    exact⟨⟨k+1,by omega,by go_num,HG.out⟩,by simp [intOf];omega⟩
   ·rw [decide_eq_false jd]
    have HX:Hid (Lu l=false):=AA (by rw [←HA.out,HST.out,decide_eq_false jd,Bool.false_and])
    clear jd
    go_wp2_with fail
    go_ret
    exact⟨rfl,k,rfl,by rw [HX.out,decide_eq_true (by omega)];rfl⟩
  ·have HX:Hid (Lu l=true):=AA (by rw [←HA.out,List.drop_of_length_le (by omega)];rfl)
   have n1:decide ((k:Int)<l.length)=false:=decide_eq_false (by omega)
   go_wp2_with fail
   go_ret
   exact⟨rfl,-1,rfl,by rw [HX.out];rfl⟩
theorem gy (A:Option Addr) (c hi:Nat) (l:List (List UInt8)) (w:World) (h:((Rd.u8.sl false).sl false).R w 0 hi [.slice A l.length c] l) (hl:l.length≤140737488351232):
 Calls prog 120 #[.slice A l.length c,.func (.func 121) #[] #[]] w fun e w'=>w=w'∧e= .returned (.bool (!Lu l)):=by
 have HC:=AA (nD A c hi l w h hl)
 clear h
 go_enter func120,ntmps120
 go_wp2_with fail
 refine HC.out.mono ?_
 rintro e w' ⟨rfl,i,rfl,hi⟩
 have HI:=AA hi
 clear hi
 go_wp2_with fail
 go_ret
 exact⟨rfl,by rw [←HI.out];rfl⟩
theorem nG (cs ds:List Value) (vt:Value) (hi:Nat) (m:AP) (s:FH) (w:World) (hm:DJ.R w 0 hi cs m) (hs:K7.R w 0 hi ds s) (hhi:hi≤w.heap.size) (hpl:s.pages.length≤140737488351232):
 Calls prog 100 #[.agg (cs++vt::ds).toArray] w fun e w'=>Below w.heap.size w w'∧e= .returned (.bool (Ct m s 7)):=by
 have yN:Hid (Ct m s 7=(decide (m.first≤s.pages.length∧(s.pages.length:Int)≤m.most)&&Lu s.pages)):=AA rfl
 obtain⟨R,hR⟩: ∃R,Ct m s 7=R:=⟨_,rfl⟩
 rw [hR] at yN⊢
 clear hR
 obtain⟨v1,v2,v3,v4,v5,v6,rfl,_,_,h2,hf3,Xj,_⟩:=Am.1 hm
 obtain⟨u0,u1,u2,u5,rfl,_,s1,s2,sr,_,_,_,su⟩:=CU.1 hs
 obtain⟨A2,c2,rfl⟩:=AB h2
 obtain⟨B1,d1,rfl⟩:=AB s1
 obtain⟨B2,d2,rfl⟩:=AB s2
 have H2:=AA h2;have Bw:=AA hhi;have S1:=AA s1;have S2:=AA s2
 unfold Rd.G8 at hf3 Xj sr su
 clear hm hs h2 s1 s2 hhi
 change Calls prog 100 #[.agg #[v1,v2,.slice A2 m.globs.length c2,.int .i64 m.first,.int .i64 m.most,v4,v5,v6,vt,u0,.slice B1 s.globs.length d1,.slice B2 s.pages.length d2,.int .i64 s.Bj,.int .i8 s.end_,u5,.int .i8 s.trap,.int .i64 s.used]] w _
 go_enter func100,ntmps100
 go_upto_region 1 with fail
 generalize hw1:w.alloc (.cells #[v1,v2,.slice A2 m.globs.length c2,.int .i64 m.first,.int .i64 m.most,v4,v5,v6,vt,u0,.slice B1 s.globs.length d1,.slice B2 s.pages.length d2,.int .i64 s.Bj,.int .i8 s.end_,u5,.int .i8 s.trap,.int .i64 s.used] 127)=w1
 obtain⟨hb1,hx1⟩:=ES hw1
 have HB1:=AA hb1;have CX:=AA hx1
 clear hw1 hb1 hx1
 have q3:=CX.out.q 3 rfl
 have q4:=CX.out.q 4 rfl
 have q11:=CX.out.q 11 rfl
 by_cases h1:m.first≤(s.pages.length:Int)
 case neg=>
  have n1:decide (m.first≤(s.pages.length:Int))=false:=decide_eq_false h1
  have HX:Hid (R=false):=AA (by rw [yN.out,decide_eq_false (by omega)];rfl)
  clear h1
  go_wp2_with fail
  go_ret
  exact⟨HB1.out,by rw [HX.out];rfl⟩
 have n1:decide (m.first≤(s.pages.length:Int))=true:=decide_eq_true h1
 by_cases h2:(s.pages.length:Int)≤m.most
 case neg=>
  have n2:decide ((s.pages.length:Int)≤m.most)=false:=decide_eq_false h2
  have HX:Hid (R=false):=AA (by rw [yN.out,decide_eq_false (by omega)];rfl)
  clear h1 h2
  go_wp2_with fail
  go_ret
  exact⟨HB1.out,by rw [HX.out];rfl⟩
 have n2:decide ((s.pages.length:Int)≤m.most)=true:=decide_eq_true h2
 have HX:Hid (R=Lu s.pages):=AA (by rw [yN.out,decide_eq_true ⟨h1,h2⟩,Bool.true_and])
 have HC:=AA (gy B2 d2 hi s.pages w1 (Rd.below S2.out HB1.out Bw.out) hpl)
 clear h1 h2
 go_wp2_with fail
 refine HC.out.mono ?_
 rintro e w' ⟨rfl,rfl⟩
 go_wp2_with fail
 go_ret
 exact⟨HB1.out,by rw [HX.out];simp⟩
theorem uQ (r h t:Bool) (br bh bt:Nat) (w:World) (hr:w.cell? ⟨br,0,none⟩=some (.bool r)) (hh:w.cell? ⟨bh,0,none⟩=some (.bool h)) (ht:w.cell? ⟨bt,0,none⟩=some (.bool t)):
 Calls prog 93 #[.pointer (some ⟨br,0,none⟩),.pointer (some ⟨bh,0,none⟩),.pointer (some ⟨bt,0,none⟩)] w fun e w'=>w=w'∧e= .returned (.bool (r||(h||t))):=by
 cases r<;>cases h<;>cases t
 all_goals
  go_enter func93,ntmps93
  go_wp2_with fail
  go_ret
  exact⟨rfl,rfl⟩
theorem uR (r:Bool) (br bs n c:Nat) (A:Option Addr) (w:World) (hr:w.cell? ⟨br,0,none⟩=some (.bool r)) (hs:w.cell? ⟨bs,0,none⟩=some (.slice A n c)):
 Calls prog 94 #[.pointer (some ⟨br,0,none⟩),.pointer (some ⟨bs,0,none⟩)] w fun e w'=>w=w'∧e= .returned (.bool (r&&decide (1≤n∧n≤64)|| !r&&decide (n=0))):=by
 obtain⟨R,hR⟩: ∃R,(r&&decide (1≤n∧n≤64)|| !r&&decide (n=0))=R:=⟨_,rfl⟩
 rw [hR]
 cases r with
 | true=>
  by_cases h1:1≤n
  ·have a1:decide ((1:Int)≤n)=true:=decide_eq_true (by omega)
   have a2:decide (1≤n)=true:=decide_eq_true h1
   have a3:decide (0<n)=true:=decide_eq_true (by omega)
   by_cases h2:n≤64
   ·have b1:decide ((n:Int)≤64)=true:=decide_eq_true (by omega)
    have b2:decide (n≤64)=true:=decide_eq_true h2
    have HX:Hid (R=true):=AA (by rw [←hR,decide_eq_true ⟨h1,h2⟩];rfl)
    clear hR h1 h2
    go_enter func94,ntmps94
    go_wp2_with fail
    go_ret
    exact⟨rfl,by rw [HX.out];rfl⟩
   ·have b1:decide ((n:Int)≤64)=false:=decide_eq_false (by omega)
    have b2:decide (n≤64)=false:=decide_eq_false h2
    have HX:Hid (R=false):=AA (by rw [←hR,decide_eq_false (by omega)];rfl)
    clear hR h1 h2
    go_enter func94,ntmps94
    go_wp2_with fail
    go_ret
    exact⟨rfl,by rw [HX.out];rfl⟩
  ·obtain rfl:n=0:=by omega
   have HX:Hid (R=false):=AA (by rw [←hR];rfl)
   clear hR h1
   go_enter func94,ntmps94
   go_wp2_with fail
   go_ret
   exact⟨rfl,by rw [HX.out];rfl⟩
 | false=>
  by_cases h1:n=0
  ·subst h1
   have HX:Hid (R=true):=AA (by rw [←hR];rfl)
   clear hR
   go_enter func94,ntmps94
   go_wp2_with fail
   go_ret
   exact⟨rfl,by rw [HX.out];rfl⟩
  ·have a1:((n:Int)==0)=false:=by rw [beq_eq_false_iff_ne];omega
   have a2:(n==0)=false:=by rw [beq_eq_false_iff_ne];exact h1
   have HX:Hid (R=false):=AA (by rw [←hR,decide_eq_false h1];rfl)
   clear hR
   go_enter func94,ntmps94
   go_wp2_with fail
   go_ret
   exact⟨rfl,by rw [HX.out];first | rfl | simp [h1]⟩
theorem uT (h:Bool) (bs bh n c:Nat) (A:Option Addr) (w:World) (hh:w.cell? ⟨bh,0,none⟩=some (.bool h)) (hs:w.cell? ⟨bs,5,none⟩=some (.slice A n c)):
 Calls prog 95 #[.pointer (some ⟨bs,0,none⟩),.pointer (some ⟨bh,0,none⟩)] w fun e w'=>w=w'∧e= .returned (.bool (decide (n=0)||h&&decide (n≤8))):=by
 obtain⟨R,hR⟩: ∃R,(decide (n=0)||h&&decide (n≤8))=R:=⟨_,rfl⟩
 rw [hR]
 by_cases h1:n=0
 ·subst h1
  have HX:Hid (R=true):=AA (by rw [←hR];rfl)
  clear hR
  go_enter func95,ntmps95
  go_wp2_with fail
  go_ret
  exact⟨rfl,by rw [HX.out];rfl⟩
 have a1:((n:Int)==0)=false:=by rw [beq_eq_false_iff_ne];omega
 have a2:(n==0)=false:=by rw [beq_eq_false_iff_ne];exact h1
 cases h with
 | false=>
  have HX:Hid (R=false):=AA (by rw [←hR,decide_eq_false h1];rfl)
  clear hR
  go_enter func95,ntmps95
  go_wp2_with fail
  go_ret
  exact⟨rfl,by rw [HX.out];rfl⟩
 | true=>
  by_cases h2:n≤8
  ·have b1:decide ((n:Int)≤8)=true:=decide_eq_true (by omega)
   have b2:decide (n≤8)=true:=decide_eq_true h2
   have HX:Hid (R=true):=AA (by rw [←hR,decide_eq_false h1,decide_eq_true h2];rfl)
   clear hR h2
   go_enter func95,ntmps95
   go_wp2_with fail
   go_ret
   exact⟨rfl,by rw [HX.out];rfl⟩
  ·have b1:decide ((n:Int)≤8)=false:=decide_eq_false (by omega)
   have b2:decide (n≤8)=false:=decide_eq_false h2
   have HX:Hid (R=false):=AA (by rw [←hR,decide_eq_false h1,decide_eq_false h2];rfl)
   clear hR h2
   go_enter func95,ntmps95
   go_wp2_with fail
   go_ret
   exact⟨rfl,by rw [HX.out];rfl⟩
theorem uU (t:Bool) (bt bs:Nat) (x:Int) (w:World) (ht:w.cell? ⟨bt,0,none⟩=some (.bool t)) (hs:w.cell? ⟨bs,6,none⟩=some (.int .i8 x)):
 Calls prog 96 #[.pointer (some ⟨bt,0,none⟩),.pointer (some ⟨bs,0,none⟩)] w fun e w'=>w=w'∧e= .returned (.bool (t&&decide (1≤x∧x≤6)|| !t&&decide (x=0))):=by
 obtain⟨R,hR⟩: ∃R,(t&&decide (1≤x∧x≤6)|| !t&&decide (x=0))=R:=⟨_,rfl⟩
 rw [hR]
 cases t with
 | true=>
  by_cases h1:1≤x
  ·by_cases h2:x≤6
   ·have a1:decide ((1:Int)≤x)=true:=decide_eq_true h1
    have b1:decide (x≤6)=true:=decide_eq_true h2
    have HX:Hid (R=true):=AA (by rw [←hR];rw [decide_eq_true ⟨h1,h2⟩];rfl)
    clear hR
    go_enter func96,ntmps96
    go_wp2_with fail
    go_ret
    exact⟨rfl,by rw [HX.out];first | rfl | simp [*]⟩
   ·have a1:decide ((1:Int)≤x)=true:=decide_eq_true h1
    have b1:decide (x≤6)=false:=decide_eq_false h2
    have HX:Hid (R=false):=AA (by rw [←hR];rw [decide_eq_false (by omega)];rfl)
    clear hR
    go_enter func96,ntmps96
    go_wp2_with fail
    go_ret
    exact⟨rfl,by rw [HX.out];first | rfl | simp [*]⟩
  ·have a1:decide ((1:Int)≤x)=false:=decide_eq_false h1
   have HX:Hid (R=false):=AA (by rw [←hR];rw [decide_eq_false (by omega)];rfl)
   clear hR
   go_enter func96,ntmps96
   go_wp2_with fail
   go_ret
   exact⟨rfl,by rw [HX.out];first | rfl | simp [*]⟩
 | false=>
  by_cases h1:x=0
  ·subst h1
   have HX:Hid (R=true):=AA (by rw [←hR];rfl)
   clear hR
   go_enter func96,ntmps96
   go_wp2_with fail
   go_ret
   exact⟨rfl,by rw [HX.out];first | rfl | simp [*]⟩
  ·have a1:(x==0)=false:=by rw [beq_eq_false_iff_ne];exact h1
   have HX:Hid (R=false):=AA (by rw [←hR];rw [decide_eq_false h1];rfl)
   clear hR
   go_enter func96,ntmps96
   go_wp2_with fail
   go_ret
   exact⟨rfl,by rw [HX.out];first | rfl | simp [*]⟩
theorem uV (bs:Nat) (x:Int) (w:World) (hs:w.cell? ⟨bs,7,none⟩=some (.int .i64 x)):
 Calls prog 97 #[.pointer (some ⟨bs,0,none⟩)] w fun e w'=>w=w'∧e= .returned (.bool (decide (0≤x∧x≤4611686018427387904))):=by
 obtain⟨R,hR⟩: ∃R,decide (0≤x∧x≤4611686018427387904)=R:=⟨_,rfl⟩
 rw [hR]
 by_cases h1:0≤x
 ·have a1:decide (0≤x)=true:=decide_eq_true h1
  by_cases h2:x≤4611686018427387904
  ·have b1:decide (x≤4611686018427387904)=true:=decide_eq_true h2
   have HX:Hid (R=true):=AA (by rw [←hR];exact decide_eq_true ⟨h1,h2⟩)
   clear hR h1 h2
   go_enter func97,ntmps97
   go_wp2_with fail
   go_ret
   exact⟨rfl,by rw [HX.out];rfl⟩
  ·have b1:decide (x≤4611686018427387904)=false:=decide_eq_false h2
   have HX:Hid (R=false):=AA (by rw [←hR];exact decide_eq_false (by omega))
   clear hR h1 h2
   go_enter func97,ntmps97
   go_wp2_with fail
   go_ret
   exact⟨rfl,by rw [HX.out];rfl⟩
 ·have a1:decide (0≤x)=false:=decide_eq_false h1
  have HX:Hid (R=false):=AA (by rw [←hR];exact decide_eq_false (by omega))
  clear hR h1
  go_enter func97,ntmps97
  go_wp2_with fail
  go_ret
  exact⟨rfl,by rw [HX.out];rfl⟩
theorem uW (bs:Nat) (x:Int) (w:World) (hs:w.cell? ⟨bs,3,none⟩=some (.int .i64 x)):
 Calls prog 98 #[.pointer (some ⟨bs,0,none⟩)] w fun e w'=>w=w'∧e= .returned (.bool (decide (0≤x))):=by
 go_enter func98,ntmps98
 go_wp2_with fail
 go_ret
 exact⟨rfl,rfl⟩
end Go.Proofs.YtlagonfamllgjaaGreatDoor
