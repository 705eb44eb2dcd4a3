/- Part 33 of the proof: RefE R14B R14C RefF -/
import Derived.Test.YtlagonfamllgjaaGreatDoorR32
namespace Go.Proofs.YtlagonfamllgjaaGreatDoor
set_option linter.unusedVariables false
set_option linter.unusedSimpArgs false
set_option maxRecDepth 100000
set_option maxHeartbeats 4000000
open Go.RowKit Tryz
theorem Nn (s:ByteArray) (k:Nat) (hk:k≤256) (hs:s.size≤140737488351232) (w:World):
 Calls prog 173 #[.string s,.int .i64 (k:Int)] w fun e w'=>w=w'∧e= .returned (.int .i64 (Bz s k)):=by
 have hsz:s.data.toList.length=s.size:=by simp
 by_cases hle:s.size≤k
 ·have hd:decide (k<s.size)=false:=decide_eq_false (by omega)
  have hdi:decide ((k:Int)<(s.size:Int))=false:=decide_eq_false (by omega)
  have hl:Mx k s.data.toList=Y4 s:=by
   unfold Y4 Mx
   rw [decide_eq_true (by omega),decide_eq_true (by omega)]
  cases hb:Y4 s with
  | true=>
   have HE:Hid (Bz s k=0):=AA (by unfold Bz;rw [BQ (decide_eq_true (by omega)),BQ hb];rfl)
   have HL:Hid (∀W,Calls prog 194 #[.string s,.int .i64 k] W fun e w'=>W=w'∧e= .returned (.bool true)):=AA (fun W=>by have:=QM s k hs W;rw [hl,hb] at this;exact this)
   clear hb hl hsz hle
   go_enter func173,ntmps173
   go_wp2_with fail
   refine(HL.out w).mono ?_
   rintro e w' ⟨rfl,rfl⟩
   go_wp2_with fail
   go_ret
   exact⟨rfl,by rw [HE.out];rfl⟩
  | false=>
   have HE:Hid (Bz s k=15):=AA (by unfold Bz;rw [BQ (decide_eq_true (by omega)),Bw hb];rfl)
   have HL:Hid (∀W,Calls prog 194 #[.string s,.int .i64 k] W fun e w'=>W=w'∧e= .returned (.bool false)):=AA (fun W=>by have:=QM s k hs W;rw [hl,hb] at this;exact this)
   clear hb hl hsz hle
   go_enter func173,ntmps173
   go_wp2_with fail
   refine(HL.out w).mono ?_
   rintro e w' ⟨rfl,rfl⟩
   go_wp2_with fail
   go_ret
   exact⟨rfl,by rw [HE.out];rfl⟩
 ·have hd:decide (k<s.size)=true:=decide_eq_true (by omega)
  have hdi:decide ((k:Int)<(s.size:Int))=true:=decide_eq_true (by omega)
  have HE:Hid (Bz s k=13):=AA (by unfold Bz;rw [Bw (decide_eq_false (by omega))];rfl)
  clear hsz hle
  go_enter func173,ntmps173
  go_wp2_with fail
  go_ret
  exact⟨rfl,by rw [HE.out];rfl⟩
theorem Pp {w w1:World} {v1 v2 v3 v4 v5 v6:Value} {a b:Int} (h:w.alloc (.cells #[v1,v2,v3,.int .i64 a,.int .i64 b,v4,v5,v6] 29)=w1):Below w.heap.size w w1∧AQ w1 w.heap.size 29 [v1,v2,v3,.int .i64 a,.int .i64 b,v4,v5,v6]:=by
 have hb:=AQ.new w 29 [v1,v2,v3,.int .i64 a,.int .i64 b,v4,v5,v6]
 change AQ (w.alloc (.cells #[v1,v2,v3,.int .i64 a,.int .i64 b,v4,v5,v6] 29)) _ _ _ at hb
 rw [h] at hb
 exact⟨by rw [←h];exact(Below.refl _ _).alloc (Nat.le_refl _) _,hb⟩
theorem wB {W:World} {lo hi:Nat} {A:Option Addr} {n c:Nat} {xs:List Int} (h:(Rd.i64.sl false).R W lo hi [.slice A n c] xs) {k:Nat} {t:Int} (hk:xs[k]?=some t): ∃b o,A=some ⟨b,o,none⟩∧b<hi∧W.cell? ⟨b,o+k,none⟩=some (.int .i64 t)∧Rd.Gd t:=by
 obtain⟨b,o,e,_,hb,cs,hc,hr⟩:=Dj h hk
 obtain⟨rfl,h6⟩:=hr
 exact⟨b,o,e,hb,by have:=hc 0 _ rfl;simpa [Rd.i64,Rd.one] using this,h6⟩
def bB (l:List CW) (x:CW) (n:Nat):Prop:= ∀(j:Nat) (y:CW),j<n→l[j]?=some y→y≠x
theorem bB.next {l:List CW} {x y:CW} {n:Nat} (h:bB l x n) (hy:l[n]?=some y) (hne:y≠x):bB l x (n+1):=fun j z hj hz=>by
 by_cases e:j=n
 ·subst e;rw [hy] at hz;injection hz with hz;subst hz;exact hne
 ·exact h j z (by omega) hz
def K_ (n:Nat) (f:Nat→Int) (k:Nat):Prop:=k≤n∧Aa k f=0
theorem K_.hit {n:Nat} {f:Nat→Int} {k:Nat} (h:K_ n f k) (hk:k<n) (he:f k≠0):Aa n f=f k:=Da h.2 he n hk
theorem K_.step {n:Nat} {f:Nat→Int} {k:Nat} (h:K_ n f k) (hk:k<n) (he:f k=0):K_ n f (k+1):=⟨hk,CQ h.2 he⟩
theorem Tk (cs:List Value) (hi:Nat) (m:AP) (w:World) (h:Db.R w 0 hi cs m) (hhi:hi≤w.heap.size):
 Calls prog 136 #[.agg cs.toArray] w fun e w'=>Below w.heap.size w w'∧e= .returned (.int .i64 (Cg (Dh m) (Dx m))):=by
 obtain⟨v1,v2,v3,v4,v5,v6,rfl,h0,h1,_⟩:=Av.1 h
 obtain⟨A0,c0,rfl⟩:=AJ h0
 obtain⟨A1,c1,rfl⟩:=AJ h1
 have H0:=AA h0;have H1:=AA h1;have CJ:=AA hhi
 clear h h0 h1 hhi
 go_enter func136,ntmps136
 go_upto_region 1 with fail
 generalize hw1:w.alloc (.cells #[.slice A0 m.types.length c0,.slice A1 m.hosts.length c1,v3,.int .i64 m.first,.int .i64 m.most,v4,v5,v6] 29)=w1
 obtain⟨hb1,hx1⟩:=Pp hw1
 have HB1:=AA hb1;have CS:=AA hx1
 clear hw1 hb1 hx1
 have q0:=CS.out.q 0 rfl
 by_cases hn:m.types.length≤64
 ·have hd:decide (64<m.types.length)=false:=decide_eq_false (by omega)
  have hdi:decide ((64:Int)<(m.types.length:Int))=false:=decide_eq_false (by omega)
  have Uq:Hid (Dh m=Aa m.types.length (Yj m.types)):=AA (by unfold Dh;rw [BQ (decide_eq_true hn),AX rfl])
  go_wp2_with fail
  go_loopw [3,4,5] (fun i _ _ wr=> ∃k:Nat,i= .int .i64 k∧K_ m.types.length (Yj m.types) k∧Below w1.heap.size w1 wr) (fun i _ _ _=>m.types.length-(intOf i).toNat)
  case atStart=>exact⟨0,rfl,⟨Nat.zero_le _,rfl⟩,Below.refl _ _⟩
  case round=>
   obtain⟨k,rfl,hg,hbr⟩:=hrel
   have HG:=AA hg
   have Io:=AA hbr
   have Ec:Hid (Below w.heap.size w wr):=AA (HB1.out.trans (hbr.mono HB1.out.size))
   have RA:=AA (CS.out.below hbr CS.out.lt)
   have q0:=RA.out.q 0 rfl
   have q1:=RA.out.q 1 rfl
   clear hg hbr
   by_cases hlt:k<m.types.length
   ·obtain⟨x,hx⟩: ∃x,m.types[k]?=some x:=⟨_,List.getElem?_eq_getElem hlt⟩
    obtain⟨b,o,eA,_,hbb,d0,d1,sp,sr⟩:=DN H0.out hx
    subst eA
    have lb:b<w.heap.size:=Nat.lt_of_lt_of_le hbb CJ.out
    have e0:=(Ec.out.cell lb (p:=⟨b,o+k*2,none⟩)).trans d0
    have e1:=(Ec.out.cell lb (p:=⟨b,o+k*2+1,none⟩)).trans d1
    have hk0:(0:Int)≤k:=by omega
    have hk1:(k:Int)<m.types.length:=by omega
    have HXX:=AA hx
    have LQ:Hid (Yj m.types k=Cg (Bz x.p 8) (Cg (Bz x.r 8) (Ab (!(m.types.take k).any (fun y=>J3 y x)) 16))):=AA (by unfold Yj;rw [hx])
    obtain⟨ep,hep⟩: ∃ep,Bz x.p 8=ep:=⟨_,rfl⟩
    obtain⟨er,her⟩: ∃er,Bz x.r 8=er:=⟨_,rfl⟩
    have HP:Hid (∀W,Calls prog 173 #[.string x.p,.int .i64 8] W fun e w'=>W=w'∧e= .returned (.int .i64 ep)):=AA (fun W=>hep▸Nn x.p 8 (by decide) sp W)
    have HR:Hid (∀W,Calls prog 173 #[.string x.r,.int .i64 8] W fun e w'=>W=w'∧e= .returned (.int .i64 er)):=AA (fun W=>her▸Nn x.r 8 (by decide) sr W)
    rw [hep,her] at LQ
    clear hx d0 d1 sp sr hbb hep her
    by_cases hp0:ep=0
    case neg=>
     have qp:(ep !=0)=true:=by simpa using hp0
     have HE:Hid (Cg (Dh m) (Dx m)=ep):=AA (by
      rw [Uq.out,HG.out.hit hlt (by rw [LQ.out,Bn hp0];exact hp0),LQ.out,Bn hp0,Bn hp0])
     clear hp0
     go_wp2_with fail
     refine(HP.out wr).mono ?_
     rintro e w' ⟨rfl,rfl⟩
     go_wp2_with fail
     go_ret
     exact⟨Ec.out,by rw [HE.out];rfl⟩
    subst hp0
    by_cases hr0:er=0
    case neg=>
     have qr:(er !=0)=true:=by simpa using hr0
     have HE:Hid (Cg (Dh m) (Dx m)=er):=AA (by
      rw [Uq.out,HG.out.hit hlt (by rw [LQ.out,AX rfl,Bn hr0];exact hr0),LQ.out,AX rfl,Bn hr0,Bn hr0])
     clear hr0
     go_wp2_with fail
     refine(HP.out wr).mono ?_
     rintro e w' ⟨rfl,rfl⟩
     go_wp2_with fail
     refine(HR.out wr).mono ?_
     rintro e w' ⟨rfl,rfl⟩
     go_wp2_with fail
     go_ret
     exact⟨Ec.out,by rw [HE.out];rfl⟩
    subst hr0
    have yR:=AA (LQ.out.trans ((AX rfl).trans (AX rfl)))
    clear LQ
    go_wp2_with fail
    refine(HP.out wr).mono ?_
    rintro e w' ⟨rfl,rfl⟩
    go_wp2_with fail
    refine(HR.out wr).mono ?_
    rintro e w' ⟨rfl,rfl⟩
    go_wp2_with fail
    clear q0 q1 e0 e1
    obtain⟨wo,rfl⟩: ∃wo:World,wo=wr:=⟨_,rfl⟩
    go_loopw [5] (fun i wv=> ∃j:Nat,j≤k∧i= .int .i64 j∧bB m.types x j∧Below wo.heap.size wo wv) (fun i _=>k-(intOf i).toNat)
    case atStart=>exact⟨0,Nat.zero_le _,rfl,fun j y hj=>absurd hj (Nat.not_lt_zero _),Below.refl _ _⟩
    case round=>
     obtain⟨j,hj,rfl,hns,hbv⟩:=hrel
     have HNS:=AA hns
     have ZU:=AA hbv
     have Fa:Hid (Below w.heap.size w wr):=AA (Ec.out.trans (hbv.mono Ec.out.size))
     have HXV:=AA (RA.out.below hbv RA.out.lt)
     have q0:=HXV.out.q 0 rfl
     have SA:Hid (Below w1.heap.size w1 wr):=AA (Io.out.trans (hbv.mono Io.out.size))
     clear hns hbv
     by_cases hjk:j<k
     ·obtain⟨z,hz⟩: ∃z,m.types[j]?=some z:=⟨_,List.getElem?_eq_getElem (by omega)⟩
      obtain⟨b',o',eB,_,_,d0,d1,_,_⟩:=DN H0.out hz
      injection eB with eB;injection eB with qm qo _
      subst qm qo
      obtain⟨b',o',eB,_,_,d2,d3,_,_⟩:=DN H0.out HXX.out
      injection eB with eB;injection eB with qm qo _
      subst qm qo
      have e0:=(Fa.out.cell lb (p:=⟨b,o+j*2,none⟩)).trans d0
      have e1:=(Fa.out.cell lb (p:=⟨b,o+j*2+1,none⟩)).trans d1
      have e2:=(Fa.out.cell lb (p:=⟨b,o+k*2,none⟩)).trans d2
      have e3:=(Fa.out.cell lb (p:=⟨b,o+k*2+1,none⟩)).trans d3
      have hj0:(0:Int)≤j:=by omega
      have hj1:(j:Int)<m.types.length:=by omega
      have hjk1:(j:Int)<k:=by omega
      have HZ:=AA hz
      clear d0 d1 d2 d3 hz
      by_cases wF:z.p=x.p
      case neg=>
       have hne:=VY wF
       have Ey:=AA (HNS.out.next HZ.out (fun e=>wF (by rw [e])))
       clear wF
       go_wp2_with fail
       go_quiet (fail)
       go_wp2_with fail
       exact⟨⟨j+1,by omega,by go_num,Ey.out,below_drewN ZU.out _⟩,by simp [intOf];omega⟩
      by_cases TQ:z.r=x.r
      case neg=>
       have heq:(z.p.toList==x.p.toList)=true:=by rw [wF];simp
       have hne:=VY TQ
       have Ey:=AA (HNS.out.next HZ.out (fun e=>TQ (by rw [e])))
       clear wF TQ
       go_wp2_with fail
       go_quiet (fail)
       go_wp2_with fail
       exact⟨⟨j+1,by omega,by go_num,Ey.out,below_drewN ZU.out _⟩,by simp [intOf];omega⟩
      have heq:(z.p.toList==x.p.toList)=true:=by rw [wF];simp
      have heq2:(z.r.toList==x.r.toList)=true:=by rw [TQ];simp
      have HE:Hid (Cg (Dh m) (Dx m)=16):=AA (by
       have hzx:z=x:=by cases z;cases x;cases wF;cases TQ;rfl
       have ha:Ab (!(m.types.take k).any (fun y=>J3 y x)) 16=16:=by rw [aY (by rw [HZ.out,hzx]) hjk];rfl
       rw [Uq.out,HG.out.hit hlt (by rw [yR.out,ha];decide),yR.out,ha];rfl)
      clear wF TQ
      go_wp2_with fail
      go_quiet (fail)
      go_wp2_with fail
      go_ret
      exact⟨below_drewN Fa.out _,by rw [HE.out];rfl⟩
     ·obtain rfl:k=j:=by omega
      have HT0:Hid (Yj m.types k=0):=AA (by rw [yR.out,aX HNS.out];rfl)
      go_wp2_with fail
      exact⟨⟨k+1,by go_num,HG.out.step hlt HT0.out,SA.out⟩,by simp [intOf];omega⟩
   ·have HT0:Hid (Dh m=0):=AA (by
     have:k=m.types.length:=by have:=HG.out.1;omega
     rw [Uq.out,←this];exact HG.out.2)
    by_cases hnh:m.hosts.length≤32
    case neg=>
     have hd:decide (32<m.hosts.length)=true:=decide_eq_true (by omega)
     have hdi:decide ((32:Int)<(m.hosts.length:Int))=true:=decide_eq_true (by omega)
     have HE:Hid (Cg (Dh m) (Dx m)=20):=AA (by rw [HT0.out,AX rfl];unfold Dx;rw [Bw (decide_eq_false hnh)];rfl)
     clear hnh
     go_wp2_with fail
     go_ret
     exact⟨Ec.out,by rw [HE.out];rfl⟩
    have hd:decide (32<m.hosts.length)=false:=decide_eq_false (by omega)
    have hdi:decide ((32:Int)<(m.hosts.length:Int))=false:=decide_eq_false (by omega)
    have vv:Hid (Cg (Dh m) (Dx m)=Aa m.hosts.length (Gg m)):=AA (by rw [HT0.out,AX rfl];unfold Dx;rw [BQ (decide_eq_true hnh),AX rfl])
    go_wp2_with fail
    clear q0 q1
    obtain⟨wo,rfl⟩: ∃wo:World,wo=wr:=⟨_,rfl⟩
    go_loopw [6] (fun i wv=> ∃j:Nat,i= .int .i64 j∧K_ m.hosts.length (Gg m) j∧Below wo.heap.size wo wv) (fun i _=>m.hosts.length-(intOf i).toNat)
    case atStart=>exact⟨0,rfl,⟨Nat.zero_le _,rfl⟩,Below.refl _ _⟩
    case round=>
     obtain⟨j,rfl,hgh,hbv⟩:=hrel
     have HGH:=AA hgh
     have ZU:=AA hbv
     have Fa:Hid (Below w.heap.size w wr):=AA (Ec.out.trans (hbv.mono Ec.out.size))
     have HXV:=AA (RA.out.below hbv RA.out.lt)
     have q0:=HXV.out.q 0 rfl
     have q1:=HXV.out.q 1 rfl
     clear hgh hbv
     by_cases hjl:j<m.hosts.length
     ·obtain⟨t,ht⟩: ∃t,m.hosts[j]?=some t:=⟨_,List.getElem?_eq_getElem hjl⟩
      obtain⟨b,o,eA,hbb,d0,ABx⟩:=wB H1.out ht
      subst eA
      have e0:=(Fa.out.cell (Nat.lt_of_lt_of_le hbb CJ.out) (p:=⟨b,o+j,none⟩)).trans d0
      have hj0:(0:Int)≤j:=by omega
      have hj1:(j:Int)<m.hosts.length:=by omega
      have HHT:Hid (Gg m j=Ab (decide (0≤t∧t<m.types.length)) 30):=AA (by unfold Gg;rw [ht])
      unfold Rd.Gd at ABx
      clear d0 ht
      by_cases h0:t<0
      case pos=>
       have q2:decide (t<0)=true:=decide_eq_true h0
       have HE:Hid (Cg (Dh m) (Dx m)=30):=AA (by
        have ha:Gg m j=30:=by rw [HHT.out,Bw (decide_eq_false (by omega))]
        rw [vv.out,HGH.out.hit hjl (by rw [ha];decide),ha])
       clear h0
       go_wp2_with fail
       go_quiet (fail)
       go_wp2_with fail
       go_ret
       exact⟨below_drewN Fa.out _,by rw [HE.out];rfl⟩
      have q2:decide (t<0)=false:=decide_eq_false h0
      by_cases h1:(m.types.length:Int)≤t
      case pos=>
       have q3:decide ((m.types.length:Int)≤t)=true:=decide_eq_true h1
       have HE:Hid (Cg (Dh m) (Dx m)=30):=AA (by
        have ha:Gg m j=30:=by rw [HHT.out,Bw (decide_eq_false (by omega))]
        rw [vv.out,HGH.out.hit hjl (by rw [ha];decide),ha])
       clear h0 h1
       go_wp2_with fail
       go_quiet (fail)
       go_wp2_with fail
       go_ret
       exact⟨below_drewN Fa.out _,by rw [HE.out];rfl⟩
      have q3:decide ((m.types.length:Int)≤t)=false:=decide_eq_false h1
      have HH0:Hid (Gg m j=0):=AA (by rw [HHT.out,BQ (decide_eq_true (by omega))])
      clear h0 h1
      go_wp2_with fail
      go_quiet (fail)
      go_wp2_with fail
      exact⟨⟨j+1,by go_num,HGH.out.step hjl HH0.out,below_drewN ZU.out _⟩,by simp [intOf];omega⟩
     ·have HE:Hid (Cg (Dh m) (Dx m)=0):=AA (by
       have:j=m.hosts.length:=by have:=HGH.out.1;omega
       rw [vv.out,←this];exact HGH.out.2)
      go_wp2_with fail
      go_ret
      exact⟨Fa.out,by rw [HE.out];rfl⟩
 ·have hd:decide (64<m.types.length)=true:=decide_eq_true (by omega)
  have hdi:decide ((64:Int)<(m.types.length:Int))=true:=decide_eq_true (by omega)
  have Uq:Hid (Cg (Dh m) (Dx m)=20):=AA (by unfold Dh;rw [Bw (decide_eq_false hn)];rfl)
  clear hn
  go_wp2_with fail
  go_ret
  exact⟨HB1.out,by rw [Uq.out];rfl⟩
def Ez (m:AP) (s:FU):Int:=Cg (Br m s 4) (Cg (Br m s 5) (Cg (Br m s 6) (Br m s 7)))
theorem SB (m:AP) (s:FU):Aa 8 (Br m s)=Cg (Aa 4 (Br m s)) (Ez m s):=by
 show Cg (Cg (Cg (Cg (Aa 4 (Br m s)) (Br m s 4)) (Br m s 5)) (Br m s 6)) (Br m s 7)=_
 unfold Ez
 simp only [EG]
theorem RB {m:AP} {s:FU} {i:Nat} (h:Ci m s i=true):Br m s i=0:=by unfold Br;rw [h];rfl
theorem Mg {m:AP} {s:FU} {i:Nat} (h:Ci m s i=false):Br m s i=(i:Int)+1:=by unfold Br;rw [h];rfl
theorem kK (cs ds:List Value) (hi:Nat) (m:AP) (s:FU) (w:World) (hm:Db.R w 0 hi cs m) (hs:K8.R w 0 hi ds s) (hhi:hi≤w.heap.size) (hng:m.globs.length≤64) (hf2:m.most≤64):
 Calls prog 71 #[.agg cs.toArray,.agg ds.toArray] w fun e w'=>Below w.heap.size w w'∧e= .returned (.int .i64 (Ez m s)):=by
 obtain⟨v1,v2,v3,v4,v5,v6,rfl,_,_,h2,hf3,XZ,_⟩:=Av.1 hm
 obtain⟨u0,u1,u2,u5,rfl,_,s1,s2,sr,_,_,_,su⟩:=DR.1 hs
 obtain⟨A2,c2,rfl⟩:=AJ h2
 obtain⟨B1,d1,rfl⟩:=AJ s1
 obtain⟨B2,d2,rfl⟩:=AJ s2
 have H2:=AA h2;have CJ:=AA hhi;have S1:=AA s1;have S2:=AA s2
 unfold Rd.Gd at hf3 XZ sr su
 clear hm hs h2 s1 s2 hhi
 go_enter func71,ntmps71
 go_upto_region 1 with fail
 generalize hw0:w.alloc (.cells #[v1,v2,.slice A2 m.globs.length c2,.int .i64 m.first,.int .i64 m.most,v4,v5,v6] 29)=w0
 obtain⟨hb0,hx0⟩:=Pp hw0
 have hz0:w0.heap.size=w.heap.size+1:=by rw [←hw0];simp
 clear hw0
 generalize hw1:w0.alloc (.cells #[u0,.slice B1 s.globs.length d1,.slice B2 s.pages.length d2,.int .i64 s.CU,.int .i8 s.end_,u5,.int .i8 s.trap,.int .i64 s.used] 35)=w1
 obtain⟨hb1,hx1⟩:=qA hw1
 rw [hz0] at hx1
 try rw [hz0]
 have Fz:=AA (hx0.below hb1 hx0.lt)
 have JM:=AA hx1
 have HB1:Hid (Below w.heap.size w w1):=AA (hb0.trans (hb1.mono hb0.size))
 clear hw1 hb0 hb1 hx0 hx1 hz0
 have q1:=JM.out.q 1 rfl
 have q3:=JM.out.q 3 rfl
 have q7:=JM.out.q 7 rfl
 have p2:=Fz.out.q 2 rfl
 by_cases hu0:s.used<0
 case pos=>
  have k0:decide (s.used<0)=true:=decide_eq_true hu0
  have HX:Hid (Ez m s=5):=AA (by unfold Ez;rw [Mg (i:=4) (decide_eq_false (by omega))];rfl)
  clear hu0
  go_wp2_with fail
  go_ret
  exact⟨HB1.out,by rw [HX.out];rfl⟩
 have k0:decide (s.used<0)=false:=decide_eq_false hu0
 by_cases hu1:4611686018427387904<s.used
 case pos=>
  have k1:decide (4611686018427387904<s.used)=true:=decide_eq_true hu1
  have HX:Hid (Ez m s=5):=AA (by unfold Ez;rw [Mg (i:=4) (decide_eq_false (by omega))];rfl)
  clear hu0 hu1
  go_wp2_with fail
  go_ret
  exact⟨HB1.out,by rw [HX.out];rfl⟩
 have k1:decide (4611686018427387904<s.used)=false:=decide_eq_false hu1
 have A4:Hid (Br m s 4=0):=AA (RB (decide_eq_true (by omega)))
 clear hu0 hu1
 by_cases hr0:s.CU<0
 case pos=>
  have k2:decide (s.CU<0)=true:=decide_eq_true hr0
  have HX:Hid (Ez m s=6):=AA (by unfold Ez;rw [A4.out,AX rfl,Mg (i:=5) (decide_eq_false (by omega))];rfl)
  clear hr0
  go_wp2_with fail
  go_ret
  exact⟨HB1.out,by rw [HX.out];rfl⟩
 have k2:decide (s.CU<0)=false:=decide_eq_false hr0
 have A5:Hid (Br m s 5=0):=AA (RB (decide_eq_true (by omega)))
 clear hr0
 by_cases hgl:s.globs.length=m.globs.length
 case neg=>
  have k3:((s.globs.length:Int) !=(m.globs.length:Int))=true:=by rw [bne_iff_ne];omega
  have k3n:(s.globs.length !=m.globs.length)=true:=by rw [bne_iff_ne];exact hgl
  have HX:Hid (Ez m s=7):=AA (by
   unfold Ez;rw [A4.out,AX rfl,A5.out,AX rfl,Mg (i:=6) (by show Cq m.globs s.globs=false;exact Ij (fun e=>hgl e.symm))];rfl)
  clear hgl
  go_wp2_with fail
  go_ret
  exact⟨HB1.out,by rw [HX.out];rfl⟩
 have k3:((s.globs.length:Int) !=(m.globs.length:Int))=false:=by rw [bne_eq_false_iff_eq];omega
 have k3n:(s.globs.length !=m.globs.length)=false:=by rw [bne_eq_false_iff_eq];exact hgl
 have HGL:=AA hgl
 have hglI:(s.globs.length:Int)≤m.globs.length∧(m.globs.length:Int)≤s.globs.length:=by omega
 clear hgl
 go_wp2_with fail
 clear q1 q3 q7 p2 k0 k1 k2 k3 k3n
 go_loopw [5,6] (fun i _ wr=> ∃k:Nat,k≤s.globs.length∧i= .int .i64 k∧Cq (m.globs.drop k) (s.globs.drop k)=Cq m.globs s.globs∧Below w1.heap.size w1 wr) (fun i _ _=>s.globs.length-(intOf i).toNat)
 case atStart=>exact⟨0,Nat.zero_le _,rfl,rfl,Below.refl _ _⟩
 case round=>
  obtain⟨k,hk,rfl,hfit,hbr⟩:=hrel
  have yS:=AA hfit;have Io:=AA hbr
  have Ec:Hid (Below w.heap.size w wr):=AA (HB1.out.trans (hbr.mono HB1.out.size))
  have Ur:=AA (Fz.out.below hbr Fz.out.lt)
  have LU:=AA (JM.out.below hbr JM.out.lt)
  have q1:=LU.out.q 1 rfl
  have p2:=Ur.out.q 2 rfl
  clear hfit hbr
  by_cases hlt:k<s.globs.length
  ·obtain⟨v,hv⟩: ∃v,s.globs[k]?=some v:=⟨_,List.getElem?_eq_getElem hlt⟩
   obtain⟨x,hx⟩: ∃x,m.globs[k]?=some x:=⟨_,List.getElem?_eq_getElem (by omega)⟩
   obtain⟨b,o,eA,_,hbb,g0,g1,g2,x64⟩:=Hw H2.out hx
   subst eA
   obtain⟨b',o',eB,_,SC,cs',hc',hr'⟩:=Dj S1.out hv
   subst eB
   obtain⟨rfl,v64⟩:=hr'
   have f0:w.cell? ⟨b',o'+k,none⟩=some (.int .u64 (v:Int)):=by have:=hc' 0 _ rfl;simpa [Rd.u64,Rd.one,uv] using this
   have lb:b<w.heap.size:=Nat.lt_of_lt_of_le hbb CJ.out
   have lb':b'<w.heap.size:=Nat.lt_of_lt_of_le SC CJ.out
   have e0:=(Ec.out.cell lb (p:=⟨b,o+k*3,none⟩)).trans g0
   have e1:=(Ec.out.cell lb (p:=⟨b,o+k*3+1,none⟩)).trans g1
   have e2:=(Ec.out.cell lb (p:=⟨b,o+k*3+2,none⟩)).trans g2
   have hk0:(0:Int)≤k:=by omega
   have hk1:(k:Int)<s.globs.length:=by omega
   have hk2:(k:Int)<m.globs.length:=by omega
   have kM:=AA (QL hx hv)
   have HL:Hid (∀W,Calls prog 103 #[.int .u64 (v:Int),.int .u8 (x.l.toNat:Int)] W fun e w'=>W=w'∧e= .returned (.bool (Du v x.l.toNat))):=AA (fun W=>Rq v x.l.toNat x.l.toNat_lt W)
   have HBAD:Hid (El x v=false→Ez m s=7):=AA (fun h=>by
    have:Cq m.globs s.globs=false:=by rw [←yS.out,kM.out,h];rfl
    unfold Ez;rw [A4.out,AX rfl,A5.out,AX rfl,Mg (i:=6) this];rfl)
   have Xt:Hid (El x v=true→Cq (m.globs.drop (k+1)) (s.globs.drop (k+1))=Cq m.globs s.globs):=AA (fun h=>by rw [←yS.out,kM.out,h,Bool.true_and])
   unfold Rd.Yv at x64 v64
   clear hx hv g0 g1 g2 hc' hbb SC
   go_upto_region 11 with fail
   generalize hwg:wr.alloc (.cells #[.int .u8 (x.l.toNat:Int),.bool x.m,.int .u64 (x.v:Int)] 139)=wg
   have hbg:Below wr.heap.size wr wg:=by rw [←hwg];exact(Below.refl _ _).alloc (Nat.le_refl _) _
   have hgx:AQ wg wr.heap.size 139 [.int .u8 (x.l.toNat:Int),.bool x.m,.int .u64 (x.v:Int)]:=by rw [←hwg];exact AQ.new wr 139 _
   have iR:Hid (Below w.heap.size w wg):=AA (Ec.out.trans (hbg.mono Ec.out.size))
   have kN:Hid (Below w1.heap.size w1 wg):=AA (Io.out.trans (hbg.mono Io.out.size))
   have q1':=(LU.out.below hbg LU.out.lt).q 1 rfl
   have f0':=(iR.out.cell lb' (p:=⟨b',o'+k,none⟩)).trans f0
   have t0:=hgx.q 0 rfl
   have t1:=hgx.q 1 rfl
   have t2:=hgx.q 2 rfl
   clear hwg hbg hgx q1 p2 e0 e1 e2 f0
   cases hft:Du v x.l.toNat with
   | false=>
    have HX:Hid (Ez m s=7):=AA (HBAD.out (by unfold El;rw [hft];rfl))
    rw [hft] at HL
    clear hft
    go_quiet ((go_at_call 103;first | exact Bp (HL.out _) | exact Bj (HL.out _)))
    go_wp2_with fail
    go_ret
    exact⟨below_drewN iR.out _,by rw [HX.out];rfl⟩
   | true=>
    cases hxm:x.m with
    | true=>
     have HG:=AA (Xt.out (by unfold El;rw [hft,hxm];rfl))
     rw [hft] at HL
     rw [hxm] at t1
     clear hft hxm
     go_quiet ((go_at_call 103;first | exact Bp (HL.out _) | exact Bj (HL.out _)))
     go_wp2_with fail
     exact⟨⟨k+1,by omega,by go_num,HG.out,below_drewN kN.out _⟩,by simp [intOf];omega⟩
    | false=>
     by_cases hvv:v=x.v
     ·have HG:=AA (Xt.out (by unfold El;rw [hft,hxm,hvv];simp))
      have n1:((v:Int) !=(x.v:Int))=false:=by rw [bne_eq_false_iff_eq];omega
      have n2:(v !=x.v)=false:=by rw [bne_eq_false_iff_eq];exact hvv
      rw [hft] at HL
      rw [hxm] at t1
      clear hft hxm hvv
      go_quiet ((go_at_call 103;first | exact Bp (HL.out _) | exact Bj (HL.out _)))
      go_wp2_with fail
      exact⟨⟨k+1,by omega,by go_num,HG.out,below_drewN kN.out _⟩,by simp [intOf];omega⟩
     ·have HX:Hid (Ez m s=7):=AA (HBAD.out (by unfold El;rw [hft,hxm,decide_eq_false hvv];rfl))
      have n1:((v:Int) !=(x.v:Int))=true:=by rw [bne_iff_ne];omega
      have n2:(v !=x.v)=true:=by rw [bne_iff_ne];exact hvv
      rw [hft] at HL
      rw [hxm] at t1
      clear hft hxm hvv
      go_quiet ((go_at_call 103;first | exact Bp (HL.out _) | exact Bj (HL.out _)))
      go_wp2_with fail
      go_ret
      exact⟨below_drewN iR.out _,by rw [HX.out];rfl⟩
  ·have A6:Hid (Br m s 6=0):=AA (RB (by
    show Cq m.globs s.globs=true
    rw [←yS.out,List.drop_of_length_le (by omega),List.drop_of_length_le (by omega)];rfl))
   have q2:=LU.out.q 2 rfl
   have p3:=Ur.out.q 3 rfl
   have p4:=Ur.out.q 4 rfl
   have yT:Hid (Ci m s 7=false→Ez m s=8):=AA (fun h=>by
    unfold Ez;rw [A4.out,AX rfl,A5.out,AX rfl,A6.out,AX rfl,Mg h];rfl)
   have wG:Hid (Ci m s 7=(decide (m.first≤s.pages.length∧(s.pages.length:Int)≤m.most)&&s.pages.all (fun p=>decide (p.length=4096)))):=AA rfl
   by_cases hp0:(s.pages.length:Int)<m.first
   case pos=>
    have k4:decide ((s.pages.length:Int)<m.first)=true:=decide_eq_true hp0
    have HX:=AA (yT.out (by rw [wG.out,decide_eq_false (by omega)];rfl))
    clear hp0
    go_wp2_with fail
    go_ret
    exact⟨Ec.out,by rw [HX.out];rfl⟩
   have k4:decide ((s.pages.length:Int)<m.first)=false:=decide_eq_false hp0
   by_cases hp1:m.most<(s.pages.length:Int)
   case pos=>
    have k5:decide (m.most<(s.pages.length:Int))=true:=decide_eq_true hp1
    have HX:=AA (yT.out (by rw [wG.out,decide_eq_false (by omega)];rfl))
    clear hp0 hp1
    go_wp2_with fail
    go_ret
    exact⟨Ec.out,by rw [HX.out];rfl⟩
   have k5:decide (m.most<(s.pages.length:Int))=false:=decide_eq_false hp1
   have HA8:Hid (Ci m s 7=s.pages.all (fun p=>decide (p.length=4096))):=AA (by rw [wG.out,decide_eq_true (by omega),Bool.true_and])
   have hpl:s.pages.length≤64:=by omega
   clear hp0 hp1
   go_wp2_with fail
   go_loop [7] (fun i=> ∃j:Nat,j≤s.pages.length∧i= .int .i64 j∧(s.pages.drop j).all (fun p=>decide (p.length=4096))=s.pages.all (fun p=>decide (p.length=4096))) (fun i=>s.pages.length-(intOf i).toNat)
   case atStart=>exact⟨0,Nat.zero_le _,rfl,rfl⟩
   case round=>
    obtain⟨j,hj,rfl,hall⟩:=hrel
    have oN:=AA hall
    clear hall
    by_cases hjl:j<s.pages.length
    ·obtain⟨pg,hpg⟩: ∃pg,s.pages[j]?=some pg:=⟨_,List.getElem?_eq_getElem hjl⟩
     obtain⟨b',o',eB,_,SC,cs',hc',hr'⟩:=Dj S2.out hpg
     subst eB
     obtain⟨vp,rfl,N9⟩:=Dc hr'
     obtain⟨Ap,cp,rfl⟩:=AJ N9
     have f0:w.cell? ⟨b',o'+j,none⟩=some (.slice Ap pg.length cp):=by have:=hc' 0 _ rfl;simpa [Rd.sl] using this
     have e0:=(Ec.out.cell (Nat.lt_of_lt_of_le SC CJ.out) (p:=⟨b',o'+j,none⟩)).trans f0
     have hj0:(0:Int)≤j:=by omega
     have hj1:(j:Int)<s.pages.length:=by omega
     have HST:Hid ((decide (pg.length=4096)&&(s.pages.drop (j+1)).all (fun p=>decide (p.length=4096)))=s.pages.all (fun p=>decide (p.length=4096))):=AA (by
      rw [←oN.out,List.drop_eq_getElem_cons hjl,List.all_cons]
      rw [List.getElem?_eq_getElem hjl] at hpg
      injection hpg with hpg
      rw [hpg])
     clear hpg hc' SC f0 N9
     by_cases hl:pg.length=4096
     ·have n1:((pg.length:Int) !=4096)=false:=by rw [bne_eq_false_iff_eq];omega
      have n2:(pg.length !=4096)=false:=by rw [bne_eq_false_iff_eq];exact hl
      have HG:Hid ((s.pages.drop (j+1)).all (fun p=>decide (p.length=4096))=s.pages.all (fun p=>decide (p.length=4096))):=AA (by rw [←HST.out,decide_eq_true hl,Bool.true_and])
      clear hl
      go_wp2_with fail
      exact⟨⟨j+1,by omega,by go_num,HG.out⟩,by simp [intOf];omega⟩
     ·have n1:((pg.length:Int) !=4096)=true:=by rw [bne_iff_ne];omega
      have n2:(pg.length !=4096)=true:=by rw [bne_iff_ne];exact hl
      have HX:=AA (yT.out (by rw [HA8.out,←HST.out,decide_eq_false hl];rfl))
      clear hl
      go_wp2_with fail
      go_ret
      exact⟨Ec.out,by rw [HX.out];rfl⟩
    ·have HX:Hid (Ez m s=0):=AA (by
      have h7:Ci m s 7=true:=by rw [HA8.out,←oN.out,List.drop_of_length_le (by omega)];rfl
      unfold Ez;rw [A4.out,AX rfl,A5.out,AX rfl,A6.out,AX rfl,RB h7])
     go_wp2_with fail
     go_ret
     exact⟨Ec.out,by rw [HX.out];rfl⟩
theorem X0 {m:AP} (hm:J7 m) {f:Bt} {k:Nat} (hf:m.fns[k]?=some f):(C8 m f).size≤64:=by
 have:=(hm.fns f (List.mem_of_getElem? hf)).loc
 unfold C8;rw [ByteArray.size_append];omega
theorem kW {w w1:World} {t:TypeId} {a b v:Value} (h:w.alloc (.cells #[a,b,v] t)=w1):Below w.heap.size w w1∧w1.cell? ⟨w.heap.size,0,none⟩=some a∧w1.cell? ⟨w.heap.size,1,none⟩=some b∧w1.cell? ⟨w.heap.size,2,none⟩=some v∧AQ w1 w.heap.size t [a,b,v]:=by
 have hb:=AQ.new w t [a,b,v]
 change AQ (w.alloc (.cells #[a,b,v] t)) _ _ _ at hb
 rw [h] at hb
 exact⟨by rw [←h];exact(Below.refl _ _).alloc (Nat.le_refl _) _,hb.cell 0,hb.cell 1,hb.cell 2,hb⟩
theorem ZX (cs:List Value) (hi:Nat) (m:AP) (k:Nat) (f:Bt) (w:World) (h:Db.R w 0 hi cs m) (hhi:hi≤w.heap.size) (hm:J7 m) (hk:m.fns[k]?=some f):
 Calls prog 105 #[.agg cs.toArray,.int .i64 k] w fun e w'=>Below w.heap.size w w'∧e= .returned (.string (C8 m f)):=by
 obtain⟨v1,v2,v3,v4,v5,v6,rfl,h0,_,_,_,_,h5,_⟩:=Av.1 h
 obtain⟨A0,c0,rfl⟩:=AJ h0
 obtain⟨A5,c5,rfl⟩:=AJ h5
 obtain⟨bf,of,Jm,KP,fU,_,hbf,hf0,hf1,hf2,hfB,yV,iT⟩:=FN h5 hk
 subst fU
 have hfo:=hm.fns f (List.mem_of_getElem? hk)
 have hlt:=(List.getElem?_eq_some_iff.1 hk).1
 obtain⟨t,ht⟩: ∃t:Nat,f.t=(t:Int):=⟨f.t.toNat,by have:=hfo.t0;omega⟩
 have htl:t<m.types.length:=by have:=hfo.t1;omega
 obtain⟨ty,hty⟩: ∃ty,m.types[t]?=some ty:=⟨_,List.getElem?_eq_getElem htl⟩
 obtain⟨bt,ot,X3,_,hbt,ht0,ht1,htp,htr⟩:=DN h0 hty
 subst X3
 have JN:CG m f.t=ty:=by rw [ht];exact FI hty
 have HLV:Hid (C8 m f=ty.p++f.loc):=AA (by unfold C8;rw [JN])
 have hloc:f.loc.size+ty.p.size≤64:=by have:=hfo.loc;rw [JN] at this;exact this
 have hadd:binOp .add 9 (.string ty.p) (.string f.loc)=pure (.string (ty.p++f.loc)):=Fh _ _ _ (by omega)
 have hk0:(0:Int)≤k:=by omega
 have hk1:(k:Int)<m.fns.length:=by omega
 have qz:(0:Int)≤t:=by omega
 have rA:(t:Int)<m.types.length:=by omega
 rw [ht] at hf0
 have lbt:bt<w.heap.size:=Nat.lt_of_lt_of_le hbt hhi
 have oO:bf<w.heap.size:=Nat.lt_of_lt_of_le hbf hhi
 clear h hm hk h0 h5 iT hfo JN ht hty hfB yV htp htr hbt hbf ht1 hhi htl hlt hloc
 go_enter func105,ntmps105
 go_upto_region 1 with fail
 generalize hw1:w.alloc (.cells #[.slice (some ⟨bt,ot,none⟩) m.types.length c0,v2,v3,.int .i64 m.first,.int .i64 m.most,.slice (some ⟨bf,of,none⟩) m.fns.length c5,v5,v6] 29)=w1
 obtain⟨hb1,hx1⟩:=Pp hw1
 have hz1:w1.heap.size=w.heap.size+1:=by rw [←hw1];simp
 have HB1:=AA hb1;have CS:=AA hx1
 have hf0:=(hb1.cell oO (p:=⟨bf,of+k*3,none⟩)).trans hf0
 have hf1:=(hb1.cell oO (p:=⟨bf,of+k*3+1,none⟩)).trans hf1
 have hf2:=(hb1.cell oO (p:=⟨bf,of+k*3+2,none⟩)).trans hf2
 have q5:=CS.out.q 5 rfl
 clear hw1 hb1 hx1
 go_upto_region 2 with fail
 generalize hw2:w1.alloc (.cells #[.int .i64 t,.string f.loc,.slice Jm f.code.length KP] 96)=w2
 obtain⟨hb2,r0,r1,_,_⟩:=kW hw2
 have HB2:Hid (Below w.heap.size w w2):=AA (HB1.out.trans (hb2.mono HB1.out.size))
 have Bq:=AA (CS.out.below hb2 CS.out.lt)
 have ht0:=(HB2.out.cell lbt (p:=⟨bt,ot+t*2,none⟩)).trans ht0
 have q0:=Bq.out.q 0 rfl
 clear hw2 hb2 hf0 hf1 hf2 q5
 rw [hz1] at r0 r1
 go_quiet (fail)
 go_wp2_with fail
 go_ret
 rw [HLV.out]
 exact⟨below_drewN HB2.out _,rfl⟩
theorem Qt (cs:List Value) (hi:Nat) (m:AP) (w:World) (h:Db.R w 0 hi cs m) (hhi:hi≤w.heap.size):
 Calls prog 137 #[.agg cs.toArray] w fun e w'=>Below w.heap.size w w'∧e= .returned (.int .i64 (Cg (Eu m) (FP m))):=by
 obtain⟨v1,v2,v3,v4,v5,v6,rfl,_,_,h2,hf3,XZ,_⟩:=Av.1 h
 obtain⟨A2,c2,rfl⟩:=AJ h2
 have H2:=AA h2;have CJ:=AA hhi
 unfold Rd.Gd at hf3 XZ
 clear h h2 hhi
 go_enter func137,ntmps137
 go_upto_region 1 with fail
 generalize hw1:w.alloc (.cells #[v1,v2,.slice A2 m.globs.length c2,.int .i64 m.first,.int .i64 m.most,v4,v5,v6] 29)=w1
 obtain⟨hb1,hx1⟩:=Pp hw1
 have HB1:=AA hb1;have CS:=AA hx1
 clear hw1 hb1 hx1
 have q2:=CS.out.q 2 rfl
 by_cases hn:m.globs.length≤64
 case neg=>
  have hd:decide (64<m.globs.length)=true:=decide_eq_true (by omega)
  have hdi:decide ((64:Int)<(m.globs.length:Int))=true:=decide_eq_true (by omega)
  have HE:Hid (Cg (Eu m) (FP m)=20):=AA (by unfold Eu;rw [Bw (decide_eq_false hn)];rfl)
  clear hn
  go_wp2_with fail
  go_ret
  exact⟨HB1.out,by rw [HE.out];rfl⟩
 have hd:decide (64<m.globs.length)=false:=decide_eq_false (by omega)
 have hdi:decide ((64:Int)<(m.globs.length:Int))=false:=decide_eq_false (by omega)
 have Uq:Hid (Eu m=Aa m.globs.length (Gh m)):=AA (by unfold Eu;rw [BQ (decide_eq_true hn),AX rfl])
 go_wp2_with fail
 clear q2
 go_loopw [3] (fun i wr=> ∃k:Nat,i= .int .i64 k∧K_ m.globs.length (Gh m) k∧Below w1.heap.size w1 wr) (fun i _=>m.globs.length-(intOf i).toNat)
 case atStart=>exact⟨0,rfl,⟨Nat.zero_le _,rfl⟩,Below.refl _ _⟩
 case round=>
  obtain⟨k,rfl,hg,hbr⟩:=hrel
  have HG:=AA hg
  have Io:=AA hbr
  have Ec:Hid (Below w.heap.size w wr):=AA (HB1.out.trans (hbr.mono HB1.out.size))
  have RA:=AA (CS.out.below hbr CS.out.lt)
  have q2:=RA.out.q 2 rfl
  clear hg hbr
  by_cases hlt:k<m.globs.length
  ·obtain⟨x,hx⟩: ∃x,m.globs[k]?=some x:=⟨_,List.getElem?_eq_getElem hlt⟩
   obtain⟨b,o,eA,_,hbb,d0,d1,d2,b64⟩:=Hw H2.out hx
   subst eA
   have lb:b<w.heap.size:=Nat.lt_of_lt_of_le hbb CJ.out
   have e0:=(Ec.out.cell lb (p:=⟨b,o+k*3,none⟩)).trans d0
   have e2:=(Ec.out.cell lb (p:=⟨b,o+k*3+2,none⟩)).trans d2
   have hk0:(0:Int)≤k:=by omega
   have hk1:(k:Int)<m.globs.length:=by omega
   have oM:Hid (Gh m k=Cg (Ab (MQ x.l.toNat) 15) (Ab (Du x.v x.l.toNat) 17)):=AA (by unfold Gh;rw [hx])
   clear hx d0 d1 d2 b64 hbb
   cases hl:MQ x.l.toNat with
   | false=>
    have HL:Hid (∀W,Calls prog 174 #[.int .u8 (x.l.toNat:Int)] W fun e w'=>W=w'∧e= .returned (.bool false)):=AA (fun W=>hl▸Ng x.l.toNat x.l.toNat_lt W)
    have HE:Hid (Cg (Eu m) (FP m)=15):=AA (by
     have ha:Gh m k=15:=by rw [oM.out,hl];rfl
     rw [Uq.out,HG.out.hit hlt (by rw [ha];decide),ha];rfl)
    clear hl
    go_wp2_with fail
    refine(HL.out wr).mono ?_
    rintro e w' ⟨rfl,rfl⟩
    go_wp2_with fail
    go_ret
    exact⟨Ec.out,by rw [HE.out];rfl⟩
   | true=>
    have HL:Hid (∀W,Calls prog 174 #[.int .u8 (x.l.toNat:Int)] W fun e w'=>W=w'∧e= .returned (.bool true)):=AA (fun W=>hl▸Ng x.l.toNat x.l.toNat_lt W)
    cases hf:Du x.v x.l.toNat with
    | false=>
     have HF:Hid (∀W,Calls prog 175 #[.int .u64 (x.v:Int),.int .u8 (x.l.toNat:Int)] W fun e w'=>W=w'∧e= .returned (.bool false)):=AA (fun W=>hf▸Un x.v x.l.toNat x.l.toNat_lt W)
     have HE:Hid (Cg (Eu m) (FP m)=17):=AA (by
      have ha:Gh m k=17:=by rw [oM.out,hl,hf];rfl
      rw [Uq.out,HG.out.hit hlt (by rw [ha];decide),ha];rfl)
     clear hl hf
     go_wp2_with fail
     refine(HL.out wr).mono ?_
     rintro e w' ⟨rfl,rfl⟩
     go_wp2_with fail
     go_quiet ((go_at_call 175;first | exact Bp (HF.out _) | exact Bj (HF.out _)))
     go_wp2_with fail
     go_ret
     exact⟨below_drewN Ec.out _,by rw [HE.out];rfl⟩
    | true=>
     have HF:Hid (∀W,Calls prog 175 #[.int .u64 (x.v:Int),.int .u8 (x.l.toNat:Int)] W fun e w'=>W=w'∧e= .returned (.bool true)):=AA (fun W=>hf▸Un x.v x.l.toNat x.l.toNat_lt W)
     have HG0:Hid (Gh m k=0):=AA (by rw [oM.out,hl,hf];rfl)
     clear hl hf
     go_wp2_with fail
     refine(HL.out wr).mono ?_
     rintro e w' ⟨rfl,rfl⟩
     go_wp2_with fail
     go_quiet ((go_at_call 175;first | exact Bp (HF.out _) | exact Bj (HF.out _)))
     go_wp2_with fail
     exact⟨⟨k+1,by go_num,HG.out.step hlt HG0.out,below_drewN Io.out _⟩,by simp [intOf];omega⟩
  ·have OA:Hid (Cg (Eu m) (FP m)=FP m):=AA (by
    have:k=m.globs.length:=by have:=HG.out.1;omega
    rw [Uq.out,←this,HG.out.2,AX rfl])
   have q3:=RA.out.q 3 rfl
   have q4:=RA.out.q 4 rfl
   have key:(FP m=17∧(decide (m.first<0)=true∨(decide (m.first<0)=false∧decide (64<m.first)=true)∨(decide (m.first<0)=false∧decide (64<m.first)=false∧decide (m.most<m.first)=true)∨(decide (m.first<0)=false∧decide (64<m.first)=false∧decide (m.most<m.first)=false∧decide (64<m.most)=true)))∨
    (FP m=0∧decide (m.first<0)=false∧decide (64<m.first)=false∧decide (m.most<m.first)=false∧decide (64<m.most)=false):=by
    unfold FP
    by_cases hp:0≤m.first∧m.first≤64∧m.first≤m.most∧m.most≤64
    ·refine .inr ⟨BQ (decide_eq_true hp),decide_eq_false (by omega),decide_eq_false (by omega),decide_eq_false (by omega),decide_eq_false (by omega)⟩
    ·refine .inl ⟨Bw (decide_eq_false hp),?_⟩
     simp only [decide_eq_true_eq,decide_eq_false_iff_not]
     omega
   rcases key with⟨hp,k1 | ⟨k1,k2⟩ | ⟨k1,k2,k3⟩ | ⟨k1,k2,k3,k4⟩⟩ | ⟨hp,k1,k2,k3,k4⟩
   all_goals
    have HP:=AA hp
    clear hp
    go_wp2_with fail
    go_ret
    exact⟨Ec.out,by rw [OA.out,HP.out];rfl⟩
theorem Oo (cs:List Value) (hi:Nat) (m:AP) (w:World) (h:Db.R w 0 hi cs m) (hhi:hi≤w.heap.size) (hty: ∀t∈m.types,t.p.size≤8):
 Calls prog 138 #[.agg cs.toArray] w fun e w'=>Below w.heap.size w w'∧e= .returned (.int .i64 (I8 m)):=by
 obtain⟨v1,v2,v3,v4,v5,v6,rfl,h0,_,_,_,_,h5,_⟩:=Av.1 h
 obtain⟨A0,c0,rfl⟩:=AJ h0
 obtain⟨A5,c5,rfl⟩:=AJ h5
 have H0:=AA h0;have H5:=AA h5;have CJ:=AA hhi;have LQ:=AA hty
 clear h h0 h5 hhi hty
 go_enter func138,ntmps138
 go_upto_region 1 with fail
 generalize hw1:w.alloc (.cells #[.slice A0 m.types.length c0,v2,v3,.int .i64 m.first,.int .i64 m.most,.slice A5 m.fns.length c5,v5,v6] 29)=w1
 obtain⟨hb1,hx1⟩:=Pp hw1
 have HB1:=AA hb1;have CS:=AA hx1
 clear hw1 hb1 hx1
 have q5:=CS.out.q 5 rfl
 by_cases hn:m.fns.length≤128
 case neg=>
  have hd:decide (128<m.fns.length)=true:=decide_eq_true (by omega)
  have hdi:decide ((128:Int)<(m.fns.length:Int))=true:=decide_eq_true (by omega)
  have HE:Hid (I8 m=20):=AA (by unfold I8;rw [Bw (decide_eq_false hn)];rfl)
  clear hn
  go_wp2_with fail
  go_ret
  exact⟨HB1.out,by rw [HE.out];rfl⟩
 have hd:decide (128<m.fns.length)=false:=decide_eq_false (by omega)
 have hdi:decide ((128:Int)<(m.fns.length:Int))=false:=decide_eq_false (by omega)
 have Uq:Hid (I8 m=Aa m.fns.length (TY m)):=AA (by unfold I8;rw [BQ (decide_eq_true hn),AX rfl])
 go_wp2_with fail
 clear q5
 go_loopw [3,4,5,6,7] (fun al i _ _ _ wr=> ∃k:Nat,i= .int .i64 k∧al= .int .i64 (Et m k:Nat)∧Et m k≤16384∧K_ m.fns.length (TY m) k∧Below w1.heap.size w1 wr) (fun _ i _ _ _ _=>m.fns.length-(intOf i).toNat)
 case atStart=>exact⟨0,rfl,rfl,Nat.zero_le _,⟨Nat.zero_le _,rfl⟩,Below.refl _ _⟩
 case round=>
  obtain⟨k,rfl,rfl,hal,hg,hbr⟩:=hrel
  have HG:=AA hg
  have Io:=AA hbr
  have Ec:Hid (Below w.heap.size w wr):=AA (HB1.out.trans (hbr.mono HB1.out.size))
  have RA:=AA (CS.out.below hbr CS.out.lt)
  have q5:=RA.out.q 5 rfl
  clear hg hbr
  by_cases hlt:k<m.fns.length
  case neg=>
   have HE:Hid (I8 m=0):=AA (by
    have:k=m.fns.length:=by have:=HG.out.1;omega
    rw [Uq.out,←this];exact HG.out.2)
   go_wp2_with fail
   go_ret
   exact⟨Ec.out,by rw [HE.out];rfl⟩
  obtain⟨x,hx⟩: ∃x,m.fns[k]?=some x:=⟨_,List.getElem?_eq_getElem hlt⟩
  obtain⟨b,o,Jm,KP,eA,_,hbb,d0,d1,d2,t63,sl,hcd⟩:=FN H5.out hx
  subst eA
  have lb:b<w.heap.size:=Nat.lt_of_lt_of_le hbb CJ.out
  have yY:=AA hcd
  have e0:=(Ec.out.cell lb (p:=⟨b,o+k*3,none⟩)).trans d0
  have e1:=(Ec.out.cell lb (p:=⟨b,o+k*3+1,none⟩)).trans d1
  have e2:=(Ec.out.cell lb (p:=⟨b,o+k*3+2,none⟩)).trans d2
  have hk0:(0:Int)≤k:=by omega
  have hk1:(k:Int)<m.fns.length:=by omega
  have iZ:Hid (TY m k=Cg (Ab (decide (0≤x.t∧x.t<m.types.length)) 30) (Cg (Bz x.loc (64-Jj m x.t)) (Cg (Ab (decide (x.code.length≤2048)) 20) (Cg (Ab (decide (Et m (k+1)≤16384)) 20) (Aa x.code.length (J4 x)))))):=AA (by unfold TY;rw [hx])
  have oN:Hid (Et m (k+1)=Et m k+x.code.length):=AA (by
   unfold Et
   have:m.fns[k]=x:=by rw [List.getElem?_eq_getElem hlt] at hx;injection hx
   rw [List.take_succ_eq_append_getElem hlt,this];simp [BM])
  unfold Rd.Gd at t63
  clear hx d0 d1 d2 hbb hcd
  go_upto_region 8 with fail
  generalize hw2:wr.alloc (.cells #[.int .i64 x.t,.string x.loc,.slice Jm x.code.length KP] 96)=w2
  have hb2:Below wr.heap.size wr w2:=by rw [←hw2];exact(Below.refl _ _).alloc (Nat.le_refl _) _
  have Jo:Hid (AQ w2 wr.heap.size 96 [.int .i64 x.t,.string x.loc,.slice Jm x.code.length KP]):=AA (by rw [←hw2];exact AQ.new wr 96 _)
  have Bq:=AA (RA.out.below hb2 RA.out.lt)
  have HB2:Hid (Below w.heap.size w w2):=AA (Ec.out.trans (hb2.mono Ec.out.size))
  have SA:Hid (Below w1.heap.size w1 w2):=AA (Io.out.trans (hb2.mono Io.out.size))
  clear hw2 hb2 e0 e1 e2 q5
  have r0:=Jo.out.q 0 rfl
  have r1:=Jo.out.q 1 rfl
  have r2:=Jo.out.q 2 rfl
  have q0:=Bq.out.q 0 rfl
  by_cases hin:0≤x.t∧x.t<m.types.length
  case neg=>
   have HE:Hid (I8 m=30):=AA (by
    have ha:TY m k=30:=by rw [iZ.out,Bw (decide_eq_false hin)];rfl
    rw [Uq.out,HG.out.hit hlt (by rw [ha];decide),ha])
   have key:decide (x.t<0)=true∨(decide (x.t<0)=false∧decide ((m.types.length:Int)≤x.t)=true):=by
    simp only [decide_eq_true_eq,decide_eq_false_iff_not];omega
   clear hin
   rcases key with k1 | ⟨k1,k2⟩
   all_goals
    go_wp2_with fail
    go_ret
    exact⟨HB2.out,by rw [HE.out];rfl⟩
  obtain⟨t,ht⟩: ∃t:Nat,x.t=(t:Int):=⟨x.t.toNat,by omega⟩
  obtain⟨ty,hty⟩: ∃ty,m.types[t]?=some ty:=⟨_,List.getElem?_eq_getElem (by omega)⟩
  obtain⟨b',o',eA,_,SC,f0,_,_,_⟩:=DN H0.out hty
  subst eA
  have g0:=(HB2.out.cell (Nat.lt_of_lt_of_le SC CJ.out) (p:=⟨b',o'+t*2,none⟩)).trans f0
  have hpl:Jj m x.t=ty.p.size:=by unfold Jj;rw [ht,Int.toNat_natCast,hty]
  have hp8:=LQ.out ty (List.mem_of_getElem? hty)
  obtain⟨room,hroom⟩: ∃room,64-ty.p.size=room:=⟨_,rfl⟩
  have za:(64:Int)-(ty.p.size:Int)=(room:Int):=by omega
  have gX:Hid (TY m k=Cg (Bz x.loc room) (Cg (Ab (decide (x.code.length≤2048)) 20) (Cg (Ab (decide (Et m (k+1)≤16384)) 20) (Aa x.code.length (J4 x))))):=AA (by
   rw [iZ.out,BQ (decide_eq_true hin),AX rfl,hpl,za])
  have t0:(0:Int)≤t:=by omega
  have t1:(t:Int)<m.types.length:=by omega
  have k1:decide ((t:Int)<0)=false:=decide_eq_false (by omega)
  have k2:decide ((m.types.length:Int)≤(t:Int))=false:=decide_eq_false (by omega)
  have k2n:decide (m.types.length≤t)=false:=decide_eq_false (by omega)
  have HTN:=AA ht
  rw [ht] at r0
  obtain⟨le,hle⟩: ∃le,Bz x.loc room=le:=⟨_,rfl⟩
  have GZ:Hid (∀W,Calls prog 173 #[.string x.loc,.int .i64 ((64:Int)-(ty.p.size:Int))] W fun e w'=>W=w'∧e= .returned (.int .i64 le)):=AA (fun W=>by rw [za,←hle];exact Nn x.loc room (by omega) sl W)
  rw [hle] at gX
  have hwr:IntKind.i64.wrap ((64:Int)-(ty.p.size:Int))=(64:Int)-(ty.p.size:Int):=IntWalk.i64_in _ (by omega)
  clear iZ hin ht hty f0 SC hpl za hroom hle sl
  go_wp2_with fail
  go_quiet ((go_at_call 173;first | exact Bp (GZ.out _) | exact Bj (GZ.out _)))
  clear hwr
  generalize hw3:w2.drewN _=w3
  have HB3:Hid (Below w.heap.size w w3):=AA (by rw [←hw3];exact below_drewN HB2.out _)
  have tC:Hid (Below w1.heap.size w1 w3):=AA (by rw [←hw3];exact below_drewN SA.out _)
  have TR:Hid (AQ w3 wr.heap.size 96 [.int .i64 t,.string x.loc,.slice Jm x.code.length KP]):=AA (by
   rw [←hw3,←HTN.out];exact Jo.out.drewN _)
  clear hw3 r0 r1 r2 q0 g0
  have r2:=TR.out.q 2 rfl
  by_cases hl0:le=0
  case neg=>
   have ql:(le !=0)=true:=by simpa using hl0
   have HE:Hid (I8 m=le):=AA (by
    have ha:TY m k=le:=by rw [gX.out,Bn hl0]
    rw [Uq.out,HG.out.hit hlt (by rw [ha];exact hl0),ha])
   clear hl0
   go_wp2_with fail
   go_ret
   exact⟨HB3.out,by rw [HE.out];rfl⟩
  subst hl0
  by_cases hc1:x.code.length≤2048
  case neg=>
   have z1:decide (2048<x.code.length)=true:=decide_eq_true (by omega)
   have z1i:decide ((2048:Int)<(x.code.length:Int))=true:=decide_eq_true (by omega)
   have HE:Hid (I8 m=20):=AA (by
    have ha:TY m k=20:=by rw [gX.out,AX rfl,Bw (decide_eq_false hc1)];rfl
    rw [Uq.out,HG.out.hit hlt (by rw [ha];decide),ha])
   clear hc1
   go_wp2_with fail
   go_ret
   exact⟨HB3.out,by rw [HE.out];rfl⟩
  have z1:decide (2048<x.code.length)=false:=decide_eq_false (by omega)
  have z1i:decide ((2048:Int)<(x.code.length:Int))=false:=decide_eq_false (by omega)
  by_cases hc2:Et m k+x.code.length≤16384
  case neg=>
   have z2:decide ((16384:Int)<(Et m k:Int)+(x.code.length:Int))=true:=decide_eq_true (by omega)
   have HE:Hid (I8 m=20):=AA (by
    have ha:TY m k=20:=by rw [gX.out,AX rfl,BQ (decide_eq_true hc1),AX rfl,oN.out,Bw (decide_eq_false hc2)];rfl
    rw [Uq.out,HG.out.hit hlt (by rw [ha];decide),ha])
   clear hc2
   go_wp2_with fail
   go_ret
   exact⟨HB3.out,by rw [HE.out];rfl⟩
  have z2:decide ((16384:Int)<(Et m k:Int)+(x.code.length:Int))=false:=decide_eq_false (by omega)
  have ADW:Hid (TY m k=Aa x.code.length (J4 x)):=AA (by rw [gX.out,AX rfl,BQ (decide_eq_true hc1),AX rfl,oN.out,BQ (decide_eq_true hc2),AX rfl])
  clear gX
  go_wp2_with fail
  clear r2 z1 z1i z2
  obtain⟨wo,rfl⟩: ∃wo:World,wo=wr:=⟨_,rfl⟩
  go_loopw [6,7] (fun _ i wv=> ∃j:Nat,i= .int .i64 j∧K_ x.code.length (J4 x) j∧Below w3.heap.size w3 wv) (fun _ i _=>x.code.length-(intOf i).toNat)
  case atStart=>exact⟨0,rfl,⟨Nat.zero_le _,rfl⟩,Below.refl _ _⟩
  case round=>
   obtain⟨j,rfl,hgj,hbv⟩:=hrel
   have tF:=AA hgj
   have ZU:=AA hbv
   have Jp:Hid (Below w.heap.size w wr):=AA (HB3.out.trans (hbv.mono HB3.out.size))
   have X6:=AA (TR.out.below hbv TR.out.lt)
   have r2:=X6.out.q 2 rfl
   clear hgj hbv
   by_cases hjl:j<x.code.length
   ·obtain⟨z,hz⟩: ∃z,x.code[j]?=some z:=⟨_,List.getElem?_eq_getElem hjl⟩
    obtain⟨b2,o2,cs2,eC,hb2,i0,i1,i2,hrz⟩: ∃b2 o2 cs2,Jm=some ⟨b2,o2,none⟩∧b2<hi∧w.cell? ⟨b2,o2+j*3,none⟩=some (.int .u8 (z.op.toNat:Int))∧w.cell? ⟨b2,o2+j*3+1,none⟩=some (.int .i64 z.a)∧w.cell? ⟨b2,o2+j*3+2,none⟩=some cs2∧Ga.R w 0 hi [.int .u8 (z.op.toNat:Int),.int .i64 z.a,cs2] z:=by
     obtain⟨b2,o2,Al,cl,e1,_,h2,h3,h4,h5,h6,h7⟩:=EP yY.out hz
     exact⟨b2,o2,_,e1,h2,h3,h4,h5,Dz.2 ⟨_,rfl,h6,h7⟩⟩
    subst eC
    have ze:b2<w.heap.size:=Nat.lt_of_lt_of_le hb2 CJ.out
    have e0:=(Jp.out.cell ze (p:=⟨b2,o2+j*3,none⟩)).trans i0
    have e1:=(Jp.out.cell ze (p:=⟨b2,o2+j*3+1,none⟩)).trans i1
    have e2:=(Jp.out.cell ze (p:=⟨b2,o2+j*3+2,none⟩)).trans i2
    have hj0:(0:Int)≤j:=by omega
    have hj1:(j:Int)<x.code.length:=by omega
    obtain⟨ie,hie⟩: ∃ie,Aq z=ie:=⟨_,rfl⟩
    have wL:Hid (J4 x j=ie):=AA (by unfold J4;rw [hz,←hie])
    have HCK:Hid (Calls prog 176 #[.agg #[.int .u8 (z.op.toNat:Int),.int .i64 z.a,cs2]] wr fun e w'=>Below wr.heap.size wr w'∧e= .returned (.int .i64 ie)):=AA (hie▸R_ [.int .u8 (z.op.toNat:Int),.int .i64 z.a,cs2] hi z wr (Rd.below hrz Jp.out CJ.out) (Nat.le_trans CJ.out Jp.out.size) (fun op W h=>Vw op W h))
    clear hz i0 i1 i2 hrz hie hb2
    go_wp2_with fail
    refine HCK.out.mono ?_
    rintro e w5 ⟨hb5,rfl⟩
    have Dv:Hid (Below w3.heap.size w3 w5):=AA (ZU.out.trans (hb5.mono ZU.out.size))
    have HB5W:Hid (Below w.heap.size w w5):=AA (Jp.out.trans (hb5.mono Jp.out.size))
    clear hb5 e0 e1 e2 r2
    by_cases hi0:ie=0
    ·subst hi0
     go_wp2_with fail
     exact⟨⟨j+1,by go_num,tF.out.step hjl wL.out,Dv.out⟩,by simp [intOf];omega⟩
    ·have qi:(ie !=0)=true:=by simpa using hi0
     have HE:Hid (I8 m=ie):=AA (by
      have ha:TY m k=ie:=by rw [ADW.out,tF.out.hit hjl (by rw [wL.out];exact hi0),wL.out]
      rw [Uq.out,HG.out.hit hlt (by rw [ha];exact hi0),ha])
     clear hi0
     go_wp2_with fail
     go_ret
     exact⟨HB5W.out,by rw [HE.out];rfl⟩
   ·have RD:Hid (TY m k=0):=AA (by
     have:j=x.code.length:=by have:=tF.out.1;omega
     rw [ADW.out,←this];exact tF.out.2)
    have HBR5:Hid (Below w1.heap.size w1 wr):=AA (tC.out.trans (ZU.out.mono tC.out.size))
    go_wp2_with fail
    exact⟨⟨k+1,by go_num,by rw [oN.out];rfl,by rw [oN.out];omega,HG.out.step hlt RD.out,HBR5.out⟩,by simp [intOf];omega⟩
end Go.Proofs.YtlagonfamllgjaaGreatDoor
