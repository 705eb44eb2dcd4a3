/- Part 19 of the proof: R14B CtlA -/
import Derived.Test.YtlagonfamllgjaaGreatDoorK18
namespace Go.Proofs.YtlagonfamllgjaaGreatDoor
set_option linter.unusedVariables false
set_option linter.unusedSimpArgs false
set_option maxRecDepth 100000
set_option maxHeartbeats 4000000
open Go.RowKit Tryz
def FR (m:AP) (s:FH):Int:=Cq (Bz m s 4) (Cq (Bz m s 5) (Cq (Bz m s 6) (Bz m s 7)))
theorem Sn (m:AP) (s:FH):Aa 8 (Bz m s)=Cq (Aa 4 (Bz m s)) (FR m s):=by
 show Cq (Cq (Cq (Cq (Aa 4 (Bz m s)) (Bz m s 4)) (Bz m s 5)) (Bz m s 6)) (Bz m s 7)=_
 unfold FR
 simp only [EM]
theorem Rj {m:AP} {s:FH} {i:Nat} (h:Ct m s i=true):Bz m s i=0:=by unfold Bz;rw [h];rfl
theorem NR {m:AP} {s:FH} {i:Nat} (h:Ct m s i=false):Bz m s i=(i:Int)+1:=by unfold Bz;rw [h];rfl
theorem mQ (cs ds:List Value) (hi:Nat) (m:AP) (s:FH) (w:World) (hm:DJ.R w 0 hi cs m) (hs:K7.R w 0 hi ds s) (hhi:hi≤w.heap.size) (hng:m.globs.length≤64) (hf2:m.most≤64):
 Calls prog 71 #[.agg cs.toArray,.agg ds.toArray] w fun e w'=>Below w.heap.size w w'∧e= .returned (.int .i64 (FR m s)):=by
 obtain⟨v1,v2,v3,v4,v5,v6,rfl,_,_,h2,hf3,Xj,_⟩:=Am.1 hm
 obtain⟨u0,u1,u2,u5,rfl,_,s1,s2,sr,_,_,_,su⟩:=CU.1 hs
 obtain⟨A2,c2,rfl⟩:=AB h2
 obtain⟨B1,d1,rfl⟩:=AB s1
 obtain⟨B2,d2,rfl⟩:=AB s2
 have H2:=AA h2;have Bw:=AA hhi;have S1:=AA s1;have S2:=AA s2
 unfold Rd.G8 at hf3 Xj sr su
 clear hm hs h2 s1 s2 hhi
 go_enter func71,ntmps71
 go_upto_region 1 with fail
 generalize hw0:w.alloc (.cells #[v1,v2,.slice A2 m.globs.length c2,.int .i64 m.first,.int .i64 m.most,v4,v5,v6] 29)=w0
 obtain⟨hb0,hx0⟩:=QK hw0
 have hz0:w0.heap.size=w.heap.size+1:=by rw [←hw0];simp
 clear hw0
 generalize hw1:w0.alloc (.cells #[u0,.slice B1 s.globs.length d1,.slice B2 s.pages.length d2,.int .i64 s.Bj,.int .i8 s.end_,u5,.int .i8 s.trap,.int .i64 s.used] 35)=w1
 obtain⟨hb1,hx1⟩:=sG hw1
 rw [hz0] at hx1
 try rw [hz0]
 have G9:=AA (hx0.below hb1 hx0.lt)
 have Ef:=AA hx1
 have HB1:Hid (Below w.heap.size w w1):=AA (hb0.trans (hb1.mono hb0.size))
 clear hw1 hb0 hb1 hx0 hx1 hz0
 have q1:=Ef.out.q 1 rfl
 have q3:=Ef.out.q 3 rfl
 have q7:=Ef.out.q 7 rfl
 have p2:=G9.out.q 2 rfl
 by_cases hu0:s.used<0
 case pos=>
  have k0:decide (s.used<0)=true:=decide_eq_true hu0
  have HX:Hid (FR m s=5):=AA (by unfold FR;rw [NR (i:=4) (decide_eq_false (by omega))];rfl)
  clear hu0
  go_wp2_with fail
  go_ret
  exact⟨HB1.out,by rw [HX.out];rfl⟩
 have k0:decide (s.used<0)=false:=decide_eq_false hu0
 by_cases hu1:4611686018427387904<s.used
 case pos=>
  have k1:decide (4611686018427387904<s.used)=true:=decide_eq_true hu1
  have HX:Hid (FR m s=5):=AA (by unfold FR;rw [NR (i:=4) (decide_eq_false (by omega))];rfl)
  clear hu0 hu1
  go_wp2_with fail
  go_ret
  exact⟨HB1.out,by rw [HX.out];rfl⟩
 have k1:decide (4611686018427387904<s.used)=false:=decide_eq_false hu1
 have A4:Hid (Bz m s 4=0):=AA (Rj (decide_eq_true (by omega)))
 clear hu0 hu1
 by_cases hr0:s.Bj<0
 case pos=>
  have k2:decide (s.Bj<0)=true:=decide_eq_true hr0
  have HX:Hid (FR m s=6):=AA (by unfold FR;rw [A4.out,AY rfl,NR (i:=5) (decide_eq_false (by omega))];rfl)
  clear hr0
  go_wp2_with fail
  go_ret
  exact⟨HB1.out,by rw [HX.out];rfl⟩
 have k2:decide (s.Bj<0)=false:=decide_eq_false hr0
 have A5:Hid (Bz m s 5=0):=AA (Rj (decide_eq_true (by omega)))
 clear hr0
 by_cases hgl:s.globs.length=m.globs.length
 case neg=>
  have k3:((s.globs.length:Int) !=(m.globs.length:Int))=true:=by rw [bne_iff_ne];omega
  have k3n:(s.globs.length !=m.globs.length)=true:=by rw [bne_iff_ne];exact hgl
  have HX:Hid (FR m s=7):=AA (by
   unfold FR;rw [A4.out,AY rfl,A5.out,AY rfl,NR (i:=6) (by show Cz m.globs s.globs=false;exact JC (fun e=>hgl e.symm))];rfl)
  clear hgl
  go_wp2_with fail
  go_ret
  exact⟨HB1.out,by rw [HX.out];rfl⟩
 have k3:((s.globs.length:Int) !=(m.globs.length:Int))=false:=by rw [bne_eq_false_iff_eq];omega
 have k3n:(s.globs.length !=m.globs.length)=false:=by rw [bne_eq_false_iff_eq];exact hgl
 have HGL:=AA hgl
 have hglI:(s.globs.length:Int)≤m.globs.length∧(m.globs.length:Int)≤s.globs.length:=by omega
 clear hgl
 go_wp2_with fail
 clear q1 q3 q7 p2 k0 k1 k2 k3 k3n
 go_loopw [5,6] (fun i _ wr=> ∃k:Nat,k≤s.globs.length∧i= .int .i64 k∧Cz (m.globs.drop k) (s.globs.drop k)=Cz m.globs s.globs∧Below w1.heap.size w1 wr) (fun i _ _=>s.globs.length-(intOf i).toNat)
 case atStart=>exact⟨0,Nat.zero_le _,rfl,rfl,Below.refl _ _⟩
 case round=>
  obtain⟨k,hk,rfl,hfit,hbr⟩:=hrel
  have V7:=AA hfit;have JG:=AA hbr
  have EP:Hid (Below w.heap.size w wr):=AA (HB1.out.trans (hbr.mono HB1.out.size))
  have U_:=AA (G9.out.below hbr G9.out.lt)
  have L9:=AA (Ef.out.below hbr Ef.out.lt)
  have q1:=L9.out.q 1 rfl
  have p2:=U_.out.q 2 rfl
  clear hfit hbr
  by_cases hlt:k<s.globs.length
  ·obtain⟨v,hv⟩: ∃v,s.globs[k]?=some v:=⟨_,List.getElem?_eq_getElem hlt⟩
   obtain⟨x,hx⟩: ∃x,m.globs[k]?=some x:=⟨_,List.getElem?_eq_getElem (by omega)⟩
   obtain⟨b,o,eA,_,hbb,g0,g1,g2,x64⟩:=Eh H2.out hx
   subst eA
   obtain⟨b',o',eB,_,Sq,cs',hc',hr'⟩:=DC S1.out hv
   subst eB
   obtain⟨rfl,v64⟩:=hr'
   have f0:w.cell? ⟨b',o'+k,none⟩=some (.int .u64 (v:Int)):=by have:=hc' 0 _ rfl;simpa [Rd.u64,Rd.one,uv] using this
   have lb:b<w.heap.size:=Nat.lt_of_lt_of_le hbb Bw.out
   have lb':b'<w.heap.size:=Nat.lt_of_lt_of_le Sq Bw.out
   have e0:=(EP.out.cell lb (p:=⟨b,o+k*3,none⟩)).trans g0
   have e1:=(EP.out.cell lb (p:=⟨b,o+k*3+1,none⟩)).trans g1
   have e2:=(EP.out.cell lb (p:=⟨b,o+k*3+2,none⟩)).trans g2
   have hk0:(0:Int)≤k:=by omega
   have hk1:(k:Int)<s.globs.length:=by omega
   have hk2:(k:Int)<m.globs.length:=by omega
   have mR:=AA (Qi hx hv)
   have HL:Hid (∀W,Calls prog 103 #[.int .u64 (v:Int),.int .u8 (x.l.toNat:Int)] W fun e w'=>W=w'∧e= .returned (.bool (Dr v x.l.toNat))):=AA (fun W=>SB v x.l.toNat x.l.toNat_lt W)
   have HBAD:Hid (FB x v=false→FR m s=7):=AA (fun h=>by
    have:Cz m.globs s.globs=false:=by rw [←V7.out,mR.out,h];rfl
    unfold FR;rw [A4.out,AY rfl,A5.out,AY rfl,NR (i:=6) this];rfl)
   have YE:Hid (FB x v=true→Cz (m.globs.drop (k+1)) (s.globs.drop (k+1))=Cz m.globs s.globs):=AA (fun h=>by rw [←V7.out,mR.out,h,Bool.true_and])
   unfold Rd.XK at x64 v64
   clear hx hv g0 g1 g2 hc' hbb Sq
   go_upto_region 11 with fail
   generalize hwg:wr.alloc (.cells #[.int .u8 (x.l.toNat:Int),.bool x.m,.int .u64 (x.v:Int)] 139)=wg
   have hbg:Below wr.heap.size wr wg:=by rw [←hwg];exact(Below.refl _ _).alloc (Nat.le_refl _) _
   have hgx:AQ wg wr.heap.size 139 [.int .u8 (x.l.toNat:Int),.bool x.m,.int .u64 (x.v:Int)]:=by rw [←hwg];exact AQ.new wr 139 _
   have jW:Hid (Below w.heap.size w wg):=AA (EP.out.trans (hbg.mono EP.out.size))
   have mU:Hid (Below w1.heap.size w1 wg):=AA (JG.out.trans (hbg.mono JG.out.size))
   have q1':=(L9.out.below hbg L9.out.lt).q 1 rfl
   have f0':=(jW.out.cell lb' (p:=⟨b',o'+k,none⟩)).trans f0
   have t0:=hgx.q 0 rfl
   have t1:=hgx.q 1 rfl
   have t2:=hgx.q 2 rfl
   clear hwg hbg hgx q1 p2 e0 e1 e2 f0
   cases hft:Dr v x.l.toNat with
   | false=>
    have HX:Hid (FR m s=7):=AA (HBAD.out (by unfold FB;rw [hft];rfl))
    rw [hft] at HL
    clear hft
    go_quiet ((go_at_call 103;first | exact BA (HL.out _) | exact BF (HL.out _)))
    go_wp2_with fail
    go_ret
    exact⟨below_drewN jW.out _,by rw [HX.out];rfl⟩
   | true=>
    cases hxm:x.m with
    | true=>
     have HG:=AA (YE.out (by unfold FB;rw [hft,hxm];rfl))
     rw [hft] at HL
     rw [hxm] at t1
     clear hft hxm
     go_quiet ((go_at_call 103;first | exact BA (HL.out _) | exact BF (HL.out _)))
     go_wp2_with fail
     exact⟨⟨k+1,by omega,by go_num,HG.out,below_drewN mU.out _⟩,by simp [intOf];omega⟩
    | false=>
     by_cases hvv:v=x.v
     ·have HG:=AA (YE.out (by unfold FB;rw [hft,hxm,hvv];simp))
      have n1:((v:Int) !=(x.v:Int))=false:=by rw [bne_eq_false_iff_eq];omega
      have n2:(v !=x.v)=false:=by rw [bne_eq_false_iff_eq];exact hvv
      rw [hft] at HL
      rw [hxm] at t1
      clear hft hxm hvv
      go_quiet ((go_at_call 103;first | exact BA (HL.out _) | exact BF (HL.out _)))
      go_wp2_with fail
      exact⟨⟨k+1,by omega,by go_num,HG.out,below_drewN mU.out _⟩,by simp [intOf];omega⟩
     ·have HX:Hid (FR m s=7):=AA (HBAD.out (by unfold FB;rw [hft,hxm,decide_eq_false hvv];rfl))
      have n1:((v:Int) !=(x.v:Int))=true:=by rw [bne_iff_ne];omega
      have n2:(v !=x.v)=true:=by rw [bne_iff_ne];exact hvv
      rw [hft] at HL
      rw [hxm] at t1
      clear hft hxm hvv
      go_quiet ((go_at_call 103;first | exact BA (HL.out _) | exact BF (HL.out _)))
      go_wp2_with fail
      go_ret
      exact⟨below_drewN jW.out _,by rw [HX.out];rfl⟩
  ·have A6:Hid (Bz m s 6=0):=AA (Rj (by
    show Cz m.globs s.globs=true
    rw [←V7.out,List.drop_of_length_le (by omega),List.drop_of_length_le (by omega)];rfl))
   have q2:=L9.out.q 2 rfl
   have p3:=U_.out.q 3 rfl
   have p4:=U_.out.q 4 rfl
   have V8:Hid (Ct m s 7=false→FR m s=8):=AA (fun h=>by
    unfold FR;rw [A4.out,AY rfl,A5.out,AY rfl,A6.out,AY rfl,NR h];rfl)
   have yN:Hid (Ct m s 7=(decide (m.first≤s.pages.length∧(s.pages.length:Int)≤m.most)&&s.pages.all (fun p=>decide (p.length=4096)))):=AA rfl
   by_cases hp0:(s.pages.length:Int)<m.first
   case pos=>
    have k4:decide ((s.pages.length:Int)<m.first)=true:=decide_eq_true hp0
    have HX:=AA (V8.out (by rw [yN.out,decide_eq_false (by omega)];rfl))
    clear hp0
    go_wp2_with fail
    go_ret
    exact⟨EP.out,by rw [HX.out];rfl⟩
   have k4:decide ((s.pages.length:Int)<m.first)=false:=decide_eq_false hp0
   by_cases hp1:m.most<(s.pages.length:Int)
   case pos=>
    have k5:decide (m.most<(s.pages.length:Int))=true:=decide_eq_true hp1
    have HX:=AA (V8.out (by rw [yN.out,decide_eq_false (by omega)];rfl))
    clear hp0 hp1
    go_wp2_with fail
    go_ret
    exact⟨EP.out,by rw [HX.out];rfl⟩
   have k5:decide (m.most<(s.pages.length:Int))=false:=decide_eq_false hp1
   have HA8:Hid (Ct m s 7=s.pages.all (fun p=>decide (p.length=4096))):=AA (by rw [yN.out,decide_eq_true (by omega),Bool.true_and])
   have hpl:s.pages.length≤64:=by omega
   clear hp0 hp1
   go_wp2_with fail
   go_loop [7] (fun i=> ∃j:Nat,j≤s.pages.length∧i= .int .i64 j∧(s.pages.drop j).all (fun p=>decide (p.length=4096))=s.pages.all (fun p=>decide (p.length=4096))) (fun i=>s.pages.length-(intOf i).toNat)
   case atStart=>exact⟨0,Nat.zero_le _,rfl,rfl⟩
   case round=>
    obtain⟨j,hj,rfl,hall⟩:=hrel
    have qw:=AA hall
    clear hall
    by_cases hjl:j<s.pages.length
    ·obtain⟨pg,hpg⟩: ∃pg,s.pages[j]?=some pg:=⟨_,List.getElem?_eq_getElem hjl⟩
     obtain⟨b',o',eB,_,Sq,cs',hc',hr'⟩:=DC S2.out hpg
     subst eB
     obtain⟨vp,rfl,Og⟩:=Co hr'
     obtain⟨Ap,cp,rfl⟩:=AB Og
     have f0:w.cell? ⟨b',o'+j,none⟩=some (.slice Ap pg.length cp):=by have:=hc' 0 _ rfl;simpa [Rd.sl] using this
     have e0:=(EP.out.cell (Nat.lt_of_lt_of_le Sq Bw.out) (p:=⟨b',o'+j,none⟩)).trans f0
     have hj0:(0:Int)≤j:=by omega
     have hj1:(j:Int)<s.pages.length:=by omega
     have HST:Hid ((decide (pg.length=4096)&&(s.pages.drop (j+1)).all (fun p=>decide (p.length=4096)))=s.pages.all (fun p=>decide (p.length=4096))):=AA (by
      rw [←qw.out,List.drop_eq_getElem_cons hjl,List.all_cons]
      rw [List.getElem?_eq_getElem hjl] at hpg
      injection hpg with hpg
      rw [hpg])
     clear hpg hc' Sq f0 Og
     by_cases hl:pg.length=4096
     ·have n1:((pg.length:Int) !=4096)=false:=by rw [bne_eq_false_iff_eq];omega
      have n2:(pg.length !=4096)=false:=by rw [bne_eq_false_iff_eq];exact hl
      have HG:Hid ((s.pages.drop (j+1)).all (fun p=>decide (p.length=4096))=s.pages.all (fun p=>decide (p.length=4096))):=AA (by rw [←HST.out,decide_eq_true hl,Bool.true_and])
      clear hl
      go_wp2_with fail
      exact⟨⟨j+1,by omega,by go_num,HG.out⟩,by simp [intOf];omega⟩
     ·have n1:((pg.length:Int) !=4096)=true:=by rw [bne_iff_ne];omega
      have n2:(pg.length !=4096)=true:=by rw [bne_iff_ne];exact hl
      have HX:=AA (V8.out (by rw [HA8.out,←HST.out,decide_eq_false hl];rfl))
      clear hl
      go_wp2_with fail
      go_ret
      exact⟨EP.out,by rw [HX.out];rfl⟩
    ·have HX:Hid (FR m s=0):=AA (by
      have h7:Ct m s 7=true:=by rw [HA8.out,←qw.out,List.drop_of_length_le (by omega)];rfl
      unfold FR;rw [A4.out,AY rfl,A5.out,AY rfl,A6.out,AY rfl,Rj h7])
     go_wp2_with fail
     go_ret
     exact⟨EP.out,by rw [HX.out];rfl⟩
def iv (n:Int):Value:= .int .i64 n
theorem Jk:(prog.info? 3).map (fun i=>(i.zero,i.size,i.bytes))=some (some (.int .i64 0),1,8):=by kernel_rfl
theorem mV (n k:Nat) (h:k<n):(List.replicate k (-1:Int)++List.replicate (n-k) 0).set k (-1)=List.replicate (k+1) (-1:Int)++List.replicate (n-(k+1)) 0:=by
 rw [List.set_append,List.length_replicate,if_neg (Nat.lt_irrefl _),Nat.sub_self,show n-k=(n-(k+1))+1 from by omega,List.replicate_succ,List.set_cons_zero,List.replicate_succ',List.append_assoc]
 rfl
theorem OQ (n:Nat) (hn:n≤2147483647) (w:World):
 Calls prog 131 #[.int .i64 n] w fun e w'=>Below w.heap.size w w'∧e= .returned (.slice (some ⟨w.heap.size,0,none⟩) n n)∧AQ w' w.heap.size 3 ((List.replicate n (-1:Int)).map iv):=by
 obtain⟨i0,hi,hz,hs',hb⟩:=info_parts Jk
 have hmk:=fun W=>JO (P:=prog) 23 3 i0 (.int .i64 0) 8 underlying23 hi hz rfl hs' hb (n:Int) n rfl (by omega) (by omega) W
 clear hi hz hs' hb
 go_enter func131,ntmps131
 go_wp2_with fail
 generalize hw1:w.alloc _=w1
 have hB1:Hid (Below w.heap.size w w1):=AA (by rw [←hw1];exact(Below.refl _ _).alloc (Nat.le_refl _) _)
 have hb1:Hid (AQ w1 w.heap.size 3 ((List.replicate n (0:Int)).map iv)):=AA (by
  rw [←hw1,List.map_replicate]
  have h:=AQ.new w 3 (List.replicate n (iv 0))
  exact h)
 clear hw1 hmk
 go_loopw [9] (fun i wr=> ∃k:Nat,k≤n∧i= .int .i64 k∧Below w.heap.size w wr∧AQ wr w.heap.size 3 ((List.replicate k (-1:Int)++List.replicate (n-k) 0).map iv))
  (fun i _=>n-(intOf i).toNat)
 case atStart=>exact⟨0,Nat.zero_le _,rfl,hB1.out,by simpa using hb1.out⟩
 case round=>
  obtain⟨k,hk,rfl,hbr,hrr⟩:=hrel
  have HB:=AA hbr;have HR:=AA hrr
  have hfz:=hrr.frozen k
  have hk0:(0:Int)≤k:=by omega
  clear hbr hrr
  by_cases hlt:k<n
  ·have hcell: ∃u,wr.cell? ⟨w.heap.size,k,none⟩=some u:=by
    obtain⟨u,hu⟩: ∃u,((List.replicate k (-1:Int)++List.replicate (n-k) 0).map iv)[k]?=some u:=⟨_,List.getElem?_eq_getElem (by simp;omega)⟩
    exact⟨u,by rw [HR.out.cell k];exact hu⟩
   obtain⟨u,hcell⟩:=hcell
   go_wp2_with fail
   refine⟨⟨k+1,by omega,by go_num,HB.out.setCell (Nat.le_refl _) _,?_⟩,by simp [intOf];omega⟩
   have:=HR.out.set k (iv (-1))
   rw [←List.map_set,mV n k hlt] at this
   exact this
  ·obtain rfl:k=n:=by omega
   go_wp2_with fail
   go_ret
   refine⟨HB.out,rfl,?_⟩
   have:=HR.out
   simpa using this
end Go.Proofs.YtlagonfamllgjaaGreatDoor
