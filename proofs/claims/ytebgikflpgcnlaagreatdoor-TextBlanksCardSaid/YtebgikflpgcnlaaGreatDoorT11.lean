/- Part 11 of the proof: PrsL Ld Ldn BldA -/
import Derived.Deep.WholeRow
import Derived.Lib.Builder
import Derived.Lib.FrozenHead
import Derived.Lib.AppendStr
import Derived.Test.YtebgikflpgcnlaaGreatDoorT10
namespace Go.Proofs.YtebgikflpgcnlaaGreatDoor
set_option linter.unusedVariables false
set_option linter.unusedSimpArgs false
set_option maxRecDepth 100000
set_option maxHeartbeats 4000000
open Go.RowKit Tryz
theorem dec_len: ∀(k u:Nat),u<10^(k+1)→(Lib.decDigits u).length≤k+1
 | 0,u,h=>by rw [Lib.decDigits,dif_pos (by omega)];simp
 | k+1,u,h=>by
  by_cases h10:u<10
  ·rw [Lib.decDigits,dif_pos h10];simp
  ·rw [Lib.decDigits,dif_neg h10,List.length_append]
   have:=dec_len k (u/10) (by rw [Nat.pow_succ] at h;omega)
   simp
   omega
theorem enc_ge (u:Nat):u<128^(enc u).length:=by
 induction u using Nat.strongRecOn with
 | _ u ih=>
  by_cases h:u<128
  ·rw [enc_small u h];simpa using h
  ·rw [enc_great u h,List.length_cons,Nat.pow_succ]
   have:=ih (u/128) (by omega)
   omega
theorem dec_enc {u v:Nat} (h:u≤v):(Lib.decDigits u).length≤3*(enc v).length:=by
 have h1:=enc_ge v
 have h0:=enc_pos v
 have h2:128^(enc v).length≤(10^3)^(enc v).length:=Nat.pow_le_pow_left (by decide) _
 rw [←Nat.pow_mul] at h2
 have h3:=dec_len (3*(enc v).length-1) u (by rw [show 3*(enc v).length-1+1=3*(enc v).length by omega];omega)
 omega
theorem itoa_len {n:Int} (h:0≤n):(Lib.itoa n).length≤3*(enc n.toNat).length:=by
 unfold Lib.itoa
 rw [if_neg (by omega)]
 exact dec_enc (Nat.le_refl _)
theorem itoa_fold (n:Int):(Lib.itoa n).length≤1+3*(enc (folded n)).length:=by
 unfold Lib.itoa
 split
 ·rename_i h
  have:=dec_enc (u:=n.natAbs) (v:=folded n) (by unfold folded;rw [if_pos h];omega)
  rw [List.length_cons];omega
 ·rename_i h
  have:=dec_enc (u:=n.toNat) (v:=folded n) (by unfold folded;rw [if_neg h];omega)
  omega
theorem flat_le16 {α:Type} {f g:α→List UInt8}: ∀ {l:List α},(∀x∈l,(f x).length≤16*(g x).length)→(l.flatMap f).length≤16*(l.flatMap g).length
 | [],_=>Nat.zero_le _
 | x::l,h=>by
  have h1:=h x (List.mem_cons_self ..)
  have h2:=flat_le16 (fun y hy=>h y (List.mem_cons_of_mem _ hy)) (l:=l)
  rw [List.flatMap_cons,List.flatMap_cons,List.length_append,List.length_append]
  omega
theorem side_len (s:ByteArray):(sideT s).length≤1+s.data.toList.length:=by
 unfold sideT
 split
 ·simp
 ·omega
theorem textB_ge (s:ByteArray):1+s.data.toList.length≤(textB s).length:=by
 unfold textB
 rw [List.length_append]
 have:=enc_pos s.size
 omega
theorem len_lits:flagonT.length=6∧typeT.length=4∧externT.length=6∧globalT.length=6∧memoryT.length=6∧funcT.length=4∧dataT.length=4∧exportT.length=6:=by decide
theorem sig_len (x:SigV):(lineT [typeT,sigT x]).length≤16*(sigB x).length:=by
 have h1:=side_len x.p
 have h2:=side_len x.r
 have h3:=textB_ge x.p
 have h4:=textB_ge x.r
 rw [lineT_two]
 unfold sigT sigB
 simp only [List.length_append,List.length_cons,List.length_nil,len_lits.2.1]
 omega
theorem host_len {t:Int} (h:0≤t):(lineT [externT,Lib.itoa t]).length≤16*(enc t.toNat).length:=by
 have h1:=itoa_len h
 have h2:=enc_pos t.toNat
 rw [lineT_two]
 simp only [List.length_append,List.length_cons,List.length_nil,len_lits.2.2.1]
 omega
theorem glob_len (x:GlobV):(globT x).length≤16*(globB x).length:=by
 have h1:=itoa_fold (signB x)
 have h2:=enc_pos (folded (signB x))
 have h3:(if x.m then varT else constT).length≤5:=by cases x.m<;>decide
 unfold globT globB
 rw [lineT_four]
 simp only [List.length_append,List.length_cons,List.length_nil,len_lits.2.2.2.1]
 omega
theorem word_le:opTab.all (fun r=>decide (r.word.data.toList.length≤12))=true:=by kernel_rfl
theorem ins_len {x:InsV} (h:insChk x=0) (hl: ∀n∈x.l,Rd.B63 n):(lineT [[32,32]++insT x]).length≤16*(insB x).length:=by
 obtain⟨r,hr,hm,hop⟩:=ins_row h
 have hw:=of_decide_eq_true (List.all_eq_true.1 word_le r hm)
 have hchk:=h
 unfold insChk at hchk
 rw [hr] at hchk
 simp only at hchk
 have hb:(boundsOf r).1≤x.a∧x.a≤(boundsOf r).2:=by
  refine Decidable.byContradiction fun hn=> ?_
  rw [if_pos hn] at hchk;cases hchk
 rw [if_neg (fun hn=>hn hb)] at hchk
 rw [lineT_one]
 unfold insT insB
 have e1:wordT x.op.toNat=r.word.data.toList:=by unfold wordT;rw [hr]
 have e2:takesT x.op.toNat=r.takes:=by unfold takesT;rw [hr]
 rw [e1,e2,hr]
 simp only [List.length_append,List.length_cons,List.length_nil]
 by_cases h3:r.takes=3
 ·rw [if_neg (fun h=>h.2 h3),if_neg (by omega),if_neg (by omega),if_pos h3,List.length_append]
  rw [if_neg (fun hn=>hn h3)] at hchk
  have hq: ¬(x.l.length<1∨16<x.l.length):=fun hn=>by rw [if_pos hn] at hchk;cases hchk
  have hq2:x.l.all (fun n=>decide (0≤n∧n≤2147483647))=true:=by
   refine Decidable.byContradiction fun hn=> ?_
   rw [if_neg hq,if_neg hn] at hchk;cases hchk
  have hf:=flat_le16 (f:=fun n:Int=>32::Lib.itoa n) (g:=fun n:Int=>enc n.toNat) (l:=x.l) (fun n hn=>by
   have h1:=itoa_len (of_decide_eq_true (List.all_eq_true.1 hq2 n hn)).1
   have h2:=enc_pos n.toNat
   rw [List.length_cons];omega)
  have hp:=enc_pos x.l.length
  simp only [List.length_nil]
  omega
 ·rw [if_pos h3] at hchk
  have hl0:x.l= []:=by
   refine List.eq_nil_of_length_eq_zero ?_
   refine Decidable.byContradiction fun hn=> ?_
   rw [if_pos (by omega)] at hchk;cases hchk
  rw [hl0,List.flatMap_nil,List.length_nil]
  by_cases h0:r.takes=0
  ·rw [if_neg (fun h=>h.1 h0),if_pos h0]
   simp only [List.length_nil]
   omega
  ·rw [if_pos ⟨h0,h3⟩,if_neg h0]
   by_cases h8:r.takes=8
   ·rw [if_pos h8,List.length_cons]
    have h1:=itoa_fold x.a
    have h2:=enc_pos (folded x.a)
    omega
   ·rw [if_neg h8,if_neg h3,List.length_cons]
    have ha:0≤x.a:=by
     have:=hb.1
     unfold boundsOf at this
     split at this
     ·exact this
     ·split at this
      ·exact this
      ·first | exact this | (rw [if_neg h8] at this;exact this)
    have h1:=itoa_len ha
    have h2:=enc_pos x.a.toNat
    omega
theorem fn_len {f:FnV} (ht:0≤f.t) (hc: ∀x∈f.code,insChk x=0∧Rd.B63 x.a∧ ∀n∈x.l,Rd.B63 n):(fnT f).length≤16*(fnB f).length:=by
 have h1:=itoa_len ht
 have h2:=enc_pos f.t.toNat
 have h3:=side_len f.loc
 have h4:=textB_ge f.loc
 have h5:=flat_le16 (f:=fun x=>lineT [[32,32]++insT x]) (g:=insB) (l:=f.code) (fun x hx=>ins_len (hc x hx).1 (hc x hx).2.2)
 unfold fnT fnB
 rw [List.length_append,lineT_three]
 simp only [List.length_append,List.length_cons,List.length_nil,len_lits.2.2.2.2.2.1] at*
 omega
theorem hex_len: ∀b:List UInt8,(hexT b).length=2*b.length
 | []=>rfl
 | c::b=>by
  have:=hex_len b
  show(hexD (c.toNat/16)::hexD (c.toNat%16)::hexT b).length=_
  simp only [List.length_cons]
  omega
theorem dat_len' {d:DatV} (h:0≤d.at_):(datT d).length≤16*(datB d).length:=by
 have h1:=itoa_len h
 have h2:=enc_pos d.at_.toNat
 have h3:=enc_pos d.b.length
 have h4:=hex_len d.b
 unfold datT datB
 rw [lineT_three]
 simp only [List.length_append,List.length_cons,List.length_nil,len_lits.2.2.2.2.2.2.1]
 omega
theorem exp_len {x:ExpV} (h:0≤x.f):(expT x).length≤16*(expB x).length:=by
 have h1:=itoa_len h
 have h2:=enc_pos x.f.toNat
 have h3:=textB_ge x.n
 unfold expT expB
 rw [lineT_three]
 simp only [List.length_append,List.length_cons,List.length_nil,len_lits.2.2.2.2.2.2.2]
 omega
structure Pos0 (m:ModV):Prop where
 hosts: ∀t∈m.hosts,0≤t
 first:0≤m.first
 most:0≤m.most
 fns: ∀f∈m.fns,0≤f.t
 dat: ∀d∈m.dat,0≤d.at_
 exps: ∀x∈m.exps,0≤x.f
theorem pos_of {m:ModV} (hE:modE m=0):Pos0 m∧(modB m).length≤65536:=by
 obtain⟨hp,hz⟩:=orE_zero hE
 refine⟨?_,of_decide_eq_true (askE_zeroP (by decide) hz)⟩
 obtain⟨hh,hb⟩:=orE_zero hp
 obtain⟨_,hh⟩:=orE_zero hh
 obtain⟨hho,hh⟩:=orE_zero hh
 obtain⟨_,hpg⟩:=orE_zero hh
 obtain⟨hf,hb⟩:=orE_zero hb
 obtain⟨hd,he⟩:=orE_zero hb
 have hPg:=of_decide_eq_true (askE_zeroP (by decide) hpg)
 refine⟨fun t ht=> ?_,by omega,by omega,fun f hf'=> ?_,fun d hd'=> ?_,fun x hx=> ?_⟩
 ·obtain⟨k,hk,hx⟩:=at_mem ht
  have h1:=firstE_zero (orE_zero hho).2 k hk
  unfold hostE at h1
  rw [hx] at h1
  exact(of_decide_eq_true (askE_zeroP (by decide) h1)).1
 ·obtain⟨k,hk,hx⟩:=at_mem hf'
  have h1:=firstE_zero (orE_zero hf).2 k hk
  unfold fnE at h1
  rw [hx] at h1
  exact(of_decide_eq_true (askE_zeroP (by decide) (orE_zero h1).1)).1
 ·obtain⟨k,hk,hx⟩:=at_mem hd'
  have h1:=firstE_zero (orE_zero hd).2 k hk
  unfold datE at h1
  rw [hx] at h1
  exact(of_decide_eq_true (askE_zeroP (by decide) (orE_zero h1).1)).1
 ·obtain⟨k,hk,hx'⟩:=at_mem hx
  have h1:=firstE_zero (orE_zero he).2 k hk
  unfold expE at h1
  rw [hx'] at h1
  exact(of_decide_eq_true (askE_zeroP (by decide) (orE_zero (orE_zero h1).2).2)).1
theorem print_len {m:ModV} (hE:modE m=0) (hN:ModNum m):(printT m).length≤1048576:=by
 have hF:=fine_of hE hN
 obtain⟨hP,hL⟩:=pos_of hE
 have h1:=flat_le16 (f:=fun x=>lineT [typeT,sigT x]) (g:=sigB) (l:=m.types) (fun x _=>sig_len x)
 have h2:=flat_le16 (f:=fun t=>lineT [externT,Lib.itoa t]) (g:=fun t:Int=>enc t.toNat) (l:=m.hosts) (fun t ht=>host_len (hP.hosts t ht))
 have h3:=flat_le16 (f:=globT) (g:=globB) (l:=m.globs) (fun x _=>glob_len x)
 have h4:=flat_le16 (f:=fnT) (g:=fnB) (l:=m.fns) (fun f hf=>fn_len (hP.fns f hf) (hF.fns f hf).2.2)
 have h5:=flat_le16 (f:=datT) (g:=datB) (l:=m.dat) (fun d hd=>dat_len' (hP.dat d hd))
 have h6:=flat_le16 (f:=expT) (g:=expB) (l:=m.exps) (fun x hx=>exp_len (hP.exps x hx))
 have h7:=itoa_len hP.first
 have h8:=itoa_len hP.most
 have h9:=enc_pos m.first.toNat
 have h10:=enc_pos m.most.toNat
 unfold printT headT bodyT
 unfold modB headB bodyB typesB hostsB globsB magicB at hL
 rw [lineT_one,lineT_three]
 simp only [List.length_append,List.length_cons,List.length_nil,len_lits.1,len_lits.2.2.2.2.1] at*
 omega
theorem parse_print {m:ModV} (hE:modE m=0) (hN:ModNum m):parseV (bOf (printT m))=(m,0,0):=print_parse hE hN (print_len hE hN)
theorem ld_row {P:Program} {ops:Array Oper} {rest:List Oper} {o:Oper} {a:Act} {w:World} {Q:Exit→Act→World→Prop} {g:Nat} {t:TypeId} {xs:List Value} (hb:Blk w g t xs) {d:TypeDesc} (hu:P.underlying t=some d) (hd:(match d with | .struct _ | .array _ _=>true | _=>false)=true) (hi:(P.info? t).map (·.size)=some xs.length)
 (hgd:o.guard=none) (x:Operand) (ho:o.op= .load t x) (hx:a.eval x= .pointer (some ⟨g,0,none⟩)) (h:wpList P ops Q rest (a.put o.dst (.agg xs.toArray)) w):wpList P ops Q (o::rest) a w:=
 wpList_load_row hgd t x ho g hx t xs.toArray (0,0) d hb hu hd (by simpa using hi) h
theorem store_new {P:Program} {ops:Array Oper} {rest:List Oper} {op:Oper} {a:Act} {W0:World} {Q:Exit→Act→World→Prop} (hgd:op.guard=none) (t:TypeId) (x y:Operand) (ho:op.op= .store t x y) (c c':Array Value)
 (hx:a.eval x= .pointer (some ⟨W0.heap.size,0,none⟩)) (hy:a.eval y= .agg c') (hi:(P.info? t).map (·.size)=some c'.size) (hc:c.size=c'.size) (h1:c'.all (·.oneCell')=true)
 (h:wpList P ops Q rest (a.put op.dst (.tuple #[])) (W0.alloc (.cells c' t))):wpList P ops Q (op::rest) a (W0.alloc (.cells c t)):=by
 refine wpList_plain hgd fun _ hK=> ?_
 unfold Oper.wp execOp
 simp only [ho,hx,hy,run_storeAt_new W0 t c c' hi hc h1,Sem.run_bind,Sem.run_pure,Result.andThen_ok]
 exact hK _ _ h
section
variable {ops:Array Oper} {rest:List Oper} {o:Oper} {a:Act} {w:World} {Q:Exit→Act→World→Prop} {g:Nat}
theorem ldM {a0 a1 a2 a3 a4 a5 a6 a7:Value} (hb:Blk w g 29 [a0,a1,a2,a3,a4,a5,a6,a7]) (hgd:o.guard=none) (x:Operand) (ho:o.op= .load 29 x) (hx:a.eval x= .pointer (some ⟨g,0,none⟩))
 (h:wpList prog ops Q rest (a.put o.dst (.agg #[a0,a1,a2,a3,a4,a5,a6,a7])) w):wpList prog ops Q (o::rest) a w:=
 ld_row hb underlying29 rfl (by kernel_rfl) hgd x ho hx h
end
theorem modNum_of {W:World} {lo hi:Nat} {cs:List Value} {m:ModV} (h:rMod.R W lo hi cs m):ModNum m:=by
 obtain⟨v1,v2,v3,v4,v5,v6,rfl,_,h1,h2,h3,h4,h5,h6,h7⟩:=rMod_iff.1 h
 obtain⟨A2,c2,rfl⟩:=sl_form h2
 obtain⟨A5,c5,rfl⟩:=sl_form h5
 obtain⟨A6,c6,rfl⟩:=sl_form h6
 obtain⟨A7,c7,rfl⟩:=sl_form h7
 obtain⟨A1,c1,rfl⟩:=sl_form h1
 refine⟨fun t ht=>(Rd.sl_ok h1 t ht).2,fun x hx=> ?_,h3.2,h4.2,fun f hf=> ?_,fun d hd=> ?_,fun x hx=> ?_⟩
 ·obtain⟨k,hk⟩:=List.getElem?_of_mem hx
  obtain⟨_,_,_,_,_,_,_,_,hb⟩:=rGlob_at h2 hk
  exact hb
 ·obtain⟨k,hk⟩:=List.getElem?_of_mem hf
  obtain⟨_,_,_,_,_,_,_,_,_,_,hb,_,hc⟩:=rFn_at h5 hk
  refine⟨hb.2,fun x hx=> ?_⟩
  obtain⟨j,hj⟩:=List.getElem?_of_mem hx
  obtain⟨_,_,_,_,_,_,_,_,_,_,ha,hl⟩:=rIns_at hc hj
  exact⟨ha,fun n hn=>(Rd.sl_ok hl n hn).2⟩
 ·obtain⟨k,hk⟩:=List.getElem?_of_mem hd
  obtain⟨_,_,_,_,_,_,_,_,_,hb,_⟩:=rDat_at h6 hk
  exact hb.2
 ·obtain⟨k,hk⟩:=List.getElem?_of_mem hx
  obtain⟨_,_,_,_,_,_,_,_,hb⟩:=rExp_at h7 hk
  exact hb.2
theorem ld_row_g {P:Program} {ops:Array Oper} {rest:List Oper} {o:Oper} {a:Act} {w:World} {Q:Exit→Act→World→Prop} {g:Nat} {t:TypeId} {xs:List Value} (hb:Blk w g t xs) {d:TypeDesc} (hu:P.underlying t=some d) (hd:(match d with | .struct _ | .array _ _=>true | _=>false)=true) (hi:(P.info? t).map (·.size)=some xs.length)
 (hg:Region.wanted o (yielded ops a.tmps)=true) (x:Operand) (ho:o.op= .load t x) (hx:a.eval x= .pointer (some ⟨g,0,none⟩)) (h:wpList P ops Q rest (a.put o.dst (.agg xs.toArray)) w):wpList P ops Q (o::rest) a w:=
 BigFrame.wpList_want hg fun _ hK=>wp_load_row t x ho g hx t xs.toArray (0,0) d hb hu hd (by simpa using hi) (hK _ _ h)
section
variable {ops:Array Oper} {rest:List Oper} {o:Oper} {a:Act} {w:World} {Q:Exit→Act→World→Prop} {g:Nat}
theorem ldMg {a0 a1 a2 a3 a4 a5 a6 a7:Value} (hb:Blk w g 29 [a0,a1,a2,a3,a4,a5,a6,a7]) (hg:Region.wanted o (yielded ops a.tmps)=true) (x:Operand) (ho:o.op= .load 29 x) (hx:a.eval x= .pointer (some ⟨g,0,none⟩))
 (h:wpList prog ops Q rest (a.put o.dst (.agg #[a0,a1,a2,a3,a4,a5,a6,a7])) w):wpList prog ops Q (o::rest) a w:=
 ld_row_g hb underlying29 rfl (by kernel_rfl) hg x ho hx h
end
structure Bld (B b:Nat) (w:World) (l:List UInt8) (p v:Value):Prop where
 blk:Blk w b 71 [p,v]
 ptr:p= .pointer none∨p= .pointer (some ⟨b,0,none⟩)
 own:w.ownsRow B 5 1 v l.length (l.map bv)
 low:B≤b
theorem Bld.ne {B b:Nat} {w:World} {l:List UInt8} {p v:Value} (h:Bld B b w l p v):v.ownBlock≠some b:=by
 intro hv
 rcases h.own.2 with⟨rfl,_⟩ | ⟨g,cap,cur,rfl,_,hg,_⟩
 ·cases hv
 ·have e:g=b:=by injection hv
  subst e
  have:=h.blk
  unfold Blk at this
  rw [this] at hg
  injection hg with hg
  injection hg with _ hg
  exact absurd hg (by decide)
theorem Bld.below {B b:Nat} {w w':World} {l:List UInt8} {p v:Value} (h:Bld B b w l p v) (hb:Below w.heap.size w w'):Bld B b w' l p v:=
 ⟨h.blk.below hb h.blk.lt,h.ptr,own_keptz h.own hb,h.low⟩
def BldAt (B b:Nat) (w:World) (l:List UInt8):Prop:= ∃p v,Bld B b w l p v
theorem BldAt.below {B b:Nat} {w w':World} {l:List UInt8} (h:BldAt B b w l) (hb:Below w.heap.size w w'):BldAt B b w' l:=by
 obtain⟨p,v,h⟩:=h
 exact⟨p,v,h.below hb⟩
theorem BldAt.new (w:World):BldAt w.heap.size w.heap.size (w.alloc (.cells #[.pointer none,.slice none 0 0] 71)) []:=
 ⟨_,_,Blk.new w 71 [.pointer none,.slice none 0 0],.inl rfl,World.ownsRow_nil _ _ _ _,Nat.le_refl _⟩
theorem byteCells_bv (l:List UInt8):Lib.byteCells l=l.map bv:=rfl
theorem bld_size:(prog.info? 71).map (·.size)=some 2:=by kernel_rfl
theorem bld_check (b:Nat) (p v:Value) (w:World) (h:Blk w b 71 [p,v]) (hp:p= .pointer none∨p= .pointer (some ⟨b,0,none⟩)):
 Calls prog 73 #[.pointer (some ⟨b,0,none⟩)] w fun e w'=>e= .returned (.tuple #[])∧Blk w' b 71 [.pointer (some ⟨b,0,none⟩),v]∧Keep (fun k=>k≠b) w w':=by
 obtain⟨j,hj,hjs⟩:=Option.map_eq_some_iff.1 bld_size
 rcases hp with rfl | rfl
 ·have h0:=h.q 0 rfl
  have hfz:=h.frozen 0
  have hsh:w.shape? b=some (71,2):=by unfold World.shape?;rw [show w.heap[b]?=_ from h];rfl
  have H:=hideIt h
  clear h
  go_enter func73,ntmps73
  go_wp2
  rw [Lib.run_to_unsafe w ⟨b,0,none⟩ underlying69 underlying175 hj (by rw [hjs];decide) hsh (Nat.zero_lt_succ 1)]
  simp only [Result.andThen]
  rw [Oper.upon_value]
  go_wp2
  rw [run_callFunc_extern func126 (by kernel_rfl) (by kernel_rfl) (by kernel_rfl) (e:=Extern.AbiNoEscape.same) (by kernel_rfl)]
  rw [Lib.run_noEscape]
  simp only [Result.andThen]
  rw [Oper.upon_value]
  go_wp2
  rw [Lib.run_from_unsafe w ⟨b,0,none⟩ underlying175 underlying69 hj hsh (by kernel_rfl)]
  simp only [Result.andThen]
  rw [Oper.upon_value]
  go_wp2
  go_end0
  exact⟨rfl,H.out.set 0 _,(Keep.refl _ w).setCell (p:=⟨b,0,none⟩) (by simp) _⟩
 ·have h0:=h.q 0 rfl
  have H:=hideIt h
  clear h
  go_enter func73,ntmps73
  go_wp2
  rw [Lib.run_neq_ptr_same w _ underlying69 hj]
  go_wp2
  go_end0
  exact⟨rfl,H.out,Keep.refl _ _⟩
theorem own_sliceF {w:World} {base:Nat} {e:TypeId} {v:Value} {n:Nat} {xs:List Value} (h:w.ownsRow base e 1 v n xs): ∃A c,v= .slice A n c:=by
 rcases h.2 with⟨rfl,rfl⟩ | ⟨g,cap,cur,rfl,_⟩
 ·exact⟨_,_,rfl⟩
 ·exact⟨_,_,rfl⟩
def KeptU (b:Nat) (w w':World):Prop:= ∀k,k<w.heap.size→k≠b→(∀cur,w.heap[k]?≠some (.cells cur 5))→w'.heap[k]?=w.heap[k]?
theorem KeptU.blk {b g:Nat} {w w':World} {t:TypeId} {xs:List Value} (h:KeptU b w w') (hb:Blk w g t xs) (hg:g≠b) (ht:t≠5):Blk w' g t xs:=by
 refine(h g hb.lt hg (fun cur e=>ht ?_)).trans hb
 have:w.heap[g]?=some (.cells xs.toArray t):=hb
 rw [this] at e
 injection e with e
 injection e with _ e
theorem KeptU.below {b:Nat} {w w' w'':World} (h:KeptU b w' w'') (hb:Below w.heap.size w w'):KeptU b w w'':=fun k hk hkb hn=>(h k (Nat.lt_of_lt_of_le hk hb.size) hkb (fun cur e=>hn cur ((hb.block k hk).symm.trans e))).trans (hb.block k hk)
theorem bld_WriteString (B b:Nat) (l:List UInt8) (s:ByteArray) (w:World) (h:BldAt B b w l) (hlen:l.length+s.size≤140737488355328) (hB:B≤w.heap.size):
 Calls prog 29 #[.pointer (some ⟨b,0,none⟩),.string s] w fun e w'=>e= .returned (.tuple #[.int .i64 s.size,.nilIface])∧BldAt B b w' (l++s.data.toList)∧Below B w w'∧KeptU b w w':=by
 obtain⟨p,v,h⟩:=h
 obtain⟨i0,hi,hz,hs',hby⟩:=info_parts info_u8
 have hne:=h.ne
 have HC:=hideIt (bld_check b p v w h.blk h.ptr)
 have HO:=hideIt h.own;have HL:=hideIt h.low;have HNE:=hideIt hne
 clear h hne
 go_enter func29,ntmps29
 go_wp2_with fail
 refine HC.out.mono ?_
 rintro e w1 ⟨rfl,hb1,hk1⟩
 clear HC
 have HB1:=hideIt hb1
 have HK1:=hideIt hk1
 have ho1:=own_keepK HO.out hk1 (fun k hk e=>HNE.out (by rw [hk,e]))
 have HO1:=hideIt ho1
 have hsz:=hk1.size
 have c1:=hb1.q 1 rfl
 clear hb1 hk1 ho1 HO
 obtain⟨A,c,rfl⟩:=own_sliceF HO1.out
 go_wp2_with (at_builtin;refine Lib.wpList_append_own_string _ rfl _ _ 41 9 rfl B 5 i0 underlying41 underlying9 hi hz hs' hby _ _ _ rfl HO1.out s rfl ?c3 ?c4 ?c5 ?_)
 case c3=>unfold maxLen;omega
 case c4=>omega
 case c5=>omega
 intro v' w2 hown' hgrow _
 obtain⟨A',c',rfl⟩:=own_sliceF hown'
 have hb2:Blk w2 b 71 [.pointer (some ⟨b,0,none⟩),.slice A l.length c]:=(hgrow.block b HB1.out.lt (fun e=>HNE.out e.symm)).trans HB1.out
 have d0:=hb2.q 0 rfl
 have d1:=hb2.q 1 rfl
 have f1:=hb2.frozen 1
 have HB2:=hideIt hb2;have HO2:=hideIt hown';have HG:=hideIt hgrow
 clear hb2 hown' hgrow
 go_wp2
 go_ret2
 have hbl:Below B w w2:=((HK1.out.mono (K':=fun k=>k<B) (fun k hk=>by have:=HL.out;omega)).grown HG.out (by intro k hk e;have:=(HO1.out.lt k hk).1;omega)).below hB (fun k h=>h)
 refine⟨rfl,⟨_,_,HB2.out.set 1 _,.inr rfl,?_,HL.out⟩,hbl.setCell (p:=⟨b,1,none⟩) HL.out _,fun k hk hkb hnu=> ?_⟩
 rotate_left
 ·have k1:w1.heap[k]?=w.heap[k]?:=HK1.out.block k hk hkb
  have k2:w2.heap[k]?=w1.heap[k]?:=HG.out.block k (Nat.lt_of_lt_of_le hk HK1.out.size) (fun e=>by
   rcases HO1.out.2 with⟨hv,_⟩ | ⟨g,cap,cur,hv,_,hg,_⟩
   ·rw [hv] at e;cases e
   ·rw [hv] at e
    have e:k=g:=by injection e
    subst e
    exact hnu _ (k1.symm.trans hg))
  have k3:=((Keep.refl (fun j=>j≠b) w2).setCell (p:=⟨b,1,none⟩) (fun e=>e rfl) (.slice A' (l.length+s.size) c')).block k (by rw [←Nat.not_le];intro h9;have:=HK1.out.size;have:=HG.out.size;omega) hkb
  exact k3.trans (k2.trans k1)
 have ho:w2.ownsRow B 5 1 (.slice A' (l.length+s.size) c') (l++s.data.toList).length ((l++s.data.toList).map bv):=by
  have h1:(l++s.data.toList).length=l.length+s.size:=by rw [List.length_append];rfl
  rw [h1,List.map_append]
  exact HO2.out
 refine own_set_ne ho ?_ _
 intro e
 rcases ho.2 with⟨hv,_⟩ | ⟨g,cap,cur,hv,_,hg,_⟩
 ·rw [hv] at e;cases e
 ·rw [hv] at e
  have e:g=b:=by injection e
  subst e
  have:=HB2.out
  unfold Blk at this
  rw [this] at hg
  injection hg with hg
  injection hg with _ hg
  exact absurd hg (by decide)
end Go.Proofs.YtebgikflpgcnlaaGreatDoor
