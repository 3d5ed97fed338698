/- The functions, each with its twin, and plain facts about them. -/
import Derived.Test.YtiahcmabcbpcpaaGreatDoormH2
set_option linter.unusedSimpArgs false
set_option linter.unusedVariables false
set_option maxRecDepth 100000
namespace Go.Proofs.YtiahcmabcbpcpaaGreatDoor
open Go.Tw
theorem ec:((0:Int) != 0)=false:=by decide
theorem tR:((0:Int) == 0)=true:=by decide
theorem oh {n:Nat} (h:n < 9223372036854775808):(UInt64.ofInt (n:Int)).toNat=n:=by
 show ((n:Int) % 2 ^ 64).toNat % 2 ^ 64=n
 omega
theorem eK (n:Nat):(enc n).length≤10:=(FT 9 n).1
theorem J8 (n:Nat):1≤(enc n).length:=(FT 9 n).2
theorem Bu {F:Nat} (hF:50 < F) (x:UInt64) {l:List UInt8} (hl:l.length < 900000):t5 F x l=some (l ++ enc x.toNat):=by
 obtain ⟨y,pre,h1,h2,h3⟩:=Ph F 9 F x l (nA x) (by omega) (by omega)
 have hg:aD (l ++ pre) [y.toUInt8]=some (l ++ (pre ++ [y.toUInt8])):=by rw [d9 (by simp;omega)];simp
 simp only [t5,Cc,h1,Option.bind_some,hg,h2];rfl
theorem Vb (F:Nat) {s:List UInt8} (h:s.length=32):Jf F s 0=some (0,s):=by
 have h1:((s.length:Int) != 32)=false:=by rw [h];rfl
 simp only [Jf,Hq,ec,cond_false,h1,d9 (show ([]:List UInt8).length + s.length≤1099511627776 by simp;omega),Option.bind_some,List.nil_append]
theorem alV (F:Nat) {s l:List UInt8} (h:s.length=32) (hl:l.length < 900000):RE F s 0 l=some (0,l ++ s):=by
 have h1:((s.length:Int) != 32)=false:=by rw [h];rfl
 simp only [RE,EC,ec,cond_false,h1,d9 (show l.length + s.length≤1099511627776 by omega),Option.bind_some]
theorem C3 {F:Nat} (hF:50 < F) (x:UInt64) {l:List UInt8} (hl:l.length < 900000):u7 F x 0 l=some (l ++ enc x.toNat):=by
 simp only [u7,J7,tR,cond_true,Bu hF x hl,Option.bind_some]
theorem V9 {F:Nat} (hF:50 < F) {x l:List UInt8} (hx:x.length < 900000) (hl:l.length < 900000):KP F x 0 l=some (l ++ (enc x.length ++ x)):=by
 have:=Bu hF (UInt64.ofInt (x.length:Int)) hl
 rw [oh (by omega)] at this
 have h10:=eK x.length
 simp only [KP,GM,tR,cond_true,this,Option.bind_some,d9 (show (l ++ enc x.length).length + x.length≤1099511627776 by simp;omega),List.append_assoc]
theorem alY {F:Nat} (hF:50 < F) {x:List UInt8} (hx:x.length < 900000):No F x 0=some (enc x.length ++ x):=by
 have:=Bu hF (UInt64.ofInt (x.length:Int)) (l:=[]) (by simp)
 rw [oh (by omega)] at this
 have h10:=eK x.length
 simp only [No,IY,tR,cond_true,this,Option.bind_some,List.nil_append,d9 (show (enc x.length).length + x.length≤1099511627776 by omega)]
theorem X4 {F:Nat} (hF:50 < F) {n:Nat} (hn:n < 900000) {l:List UInt8} (hl:l.length < 900000):Ju F (n:Int) 0 l=some (0,l ++ enc n):=by
 have:=C3 hF (UInt64.ofInt (n:Int)) hl
 rw [oh (by omega)] at this
 have h1:decide ((n:Int) < 0)=false:=decide_eq_false (by omega)
 simp only [Ju,Jr,ec,cond_false,h1,this,Option.bind_some]
theorem KU:∀ {xs:List (List UInt8)},(∀ x ∈ xs,x.length=32)->xs.flatten.length=32 * xs.length
 | [],_=>rfl
 | x :: xs,h=>by
  have:=KU (xs:=xs) fun y hy=>h y (by simp [hy])
  simp only [List.flatten_cons,List.length_append,List.length_cons,this,h x (by simp)];omega
theorem UG {F:Nat} (hF:2000 < F) {xs:List (List UInt8)} (hx:xs.length≤1000) (h:∀ x ∈ xs,x.length=32) {l:List UInt8} (hl:l.length < 800000):FL F xs 0 l=some (0,l ++ (enc xs.length ++ xs.flatten)):=by
 have h10:=eK xs.length
 have hfl:∀ i,(xs.take i).flatten.length≤32000:=fun i=>by
  have:=KU (xs:=xs.take i) fun x hx=>h x (List.mem_of_mem_take hx)
  rw [this];simp;omega
 obtain ⟨z,hz,hQ⟩:=cL (f:=fun s:Int×Int×List UInt8=>Er F xs (xs.length:Int) s.1 s.2.1 s.2.2) (fun s=>∃ i:Nat,s=((i:Int),(0:Int),l ++ enc xs.length ++ (xs.take i).flatten)∧i≤xs.length) (fun z=>z=(0,l ++ enc xs.length ++ xs.flatten)) (fun s=>xs.length - s.1.toNat) (by
  rintro s ⟨i,rfl,hi⟩
  by_cases hlt:i < xs.length
  ·have h1:decide ((i:Int) < (xs.length:Int))=true:=decide_eq_true (by omega)
   have hx:xs[i]? = some xs[i]:=List.getElem?_eq_getElem hlt
   have hf:=hfl i
   have hs:=alV F (s:=xs[i]) (l:=l ++ enc xs.length ++ (xs.take i).flatten) (h _ (List.getElem_mem hlt)) (by simp only [List.length_append];omega)
   have he:l ++ enc xs.length ++ (xs.take (i + 1)).flatten=l ++ enc xs.length ++ (xs.take i).flatten ++ xs[i]:=by rw [sM hx];simp only [List.flatten_append,List.flatten_cons,List.flatten_nil,List.append_nil,List.append_assoc]
   refine .inl ⟨(((i + 1:Nat):Int),(0:Int),l ++ enc xs.length ++ (xs.take (i + 1)).flatten),?_,⟨i + 1,rfl,by omega⟩,by simp;omega⟩
   simp only [Er,zH,h1,cond_true,cU hx,Option.bind_some,hs,dH (show i < 9223372036854775807 by omega),he]
  ·have h1:decide ((i:Int) < (xs.length:Int))=false:=decide_eq_false (by omega)
   have:i=xs.length:=by omega
   subst this
   exact .inr ⟨(0,l ++ enc xs.length ++ xs.flatten),by simp only [Er,zH,h1,cond_false,List.take_length],rfl⟩) F ((0:Int),(0:Int),l ++ enc xs.length) ⟨0,by simp,by omega⟩ (by simp;omega)
 subst hQ
 simp only [FL,Fi,X4 cO (show xs.length < 900000 by omega) (show l.length < 900000 by omega),Option.bind_some,hz,List.append_assoc]
where cO:50 < F:=by omega
theorem Nu (F:Nat) {l:List UInt8} (hl:l.length≤1048576):z_ F 0 l=some (0,l):=by
 have h1:decide ((1048576:Int) < (l.length:Int))=false:=decide_eq_false (by omega)
 simp only [z_,Fu,ec,cond_false,h1,d9 (show ([]:List UInt8).length + l.length≤1099511627776 by simp;omega),Option.bind_some,List.nil_append]
theorem aaE {F:Nat} (hF:2000 < F) {ls:List (List UInt8)} (hl:ls.length≤1000) (h:∀ x ∈ ls,x.length=32):yj F ls=some true:=by
 obtain ⟨z,hz,hQ⟩:=cL (f:=fun s:Int=>Hs F ls (ls.length:Int) s) (fun s=>∃ i:Nat,s=i∧i≤ls.length) (fun z=>z=.inl ()) (fun s=>ls.length - s.toNat) (by
  rintro s ⟨i,rfl,hi⟩
  by_cases hlt:i < ls.length
  ·have h1:decide ((i:Int) < (ls.length:Int))=true:=decide_eq_true (by omega)
   have hx:ls[i]? = some ls[i]:=List.getElem?_eq_getElem hlt
   have d_:(((ls[i].length:Nat):Int) != 32)=false:=by rw [h _ (List.getElem_mem hlt)];rfl
   refine .inl ⟨((i + 1:Nat):Int),by simp only [Hs,Au,h1,cond_true,cU hx,Option.bind_some,d_,cond_false,dH (show i < 9223372036854775807 by omega)],⟨i + 1,rfl,by omega⟩,by omega⟩
  ·have h1:decide ((i:Int) < (ls.length:Int))=false:=decide_eq_false (by omega)
   exact .inr ⟨.inl (),by simp only [Hs,Au,h1,cond_false],rfl⟩) F (0:Int) ⟨0,rfl,by omega⟩ (by simp;omega)
 subst hQ
 simp only [yj,IR,hz,Option.bind_some,bz]
theorem ab_ (F:Nat) {s:List UInt8} (h:s.length=32) {i:Nat} {m:Int} (hi:(i:Int) < m):xq F s (i:Int) m=some true:=by
 have h1:((s.length:Int) == 32)=true:=by rw [h];rfl
 have h2:decide ((0:Int)≤(i:Int))=true:=decide_eq_true (by omega)
 have h3:decide ((i:Int) < m)=true:=decide_eq_true hi
 simp only [xq,Gk,h1,h2,h3,cond_true]
structure B4 (S:List UInt8) (i o:Nat) (d:List UInt8) (p:List (List UInt8)):Prop where
 hs:S.length=32
 hi:i < 16
 ho:o≤65024
 o5:o % 512=0
 d1:1≤d.length
 d5:d.length≤512
 hp:p.length≤16
 Fe:∀ x ∈ p,x.length=32
def EP (S:List UInt8) (i o:Nat) (d:List UInt8) (p:List (List UInt8)):List UInt8:=S ++ (enc i ++ (enc o ++ (enc d.length ++ (d ++ (enc p.length ++ p.flatten)))))
theorem W4 {F:Nat} (hF:2000 < F) {S:List UInt8} {i o:Nat} {d:List UInt8} {p:List (List UInt8)} (h:B4 S i o d p):RB F ((S,(i:Int),()),(o:Int),d,p,())=some true∧R2 F S (i:Int) (o:Int) d p=some true:=by
 have hs:=h.hi
 have ho:=h.ho
 have h1:=ab_ F h.hs (i:=i) (m:=16) (by omega)
 have h2:decide ((0:Int)≤(o:Int))=true:=decide_eq_true (by omega)
 have h3:decide ((o:Int)≤65024)=true:=decide_eq_true (by omega)
 have h4:(Int.tmod (o:Int) 512 == 0)=true:=by
  have:=h.o5
  have:Int.tmod (o:Int) 512=0:=by rw [Int.tmod_eq_emod_of_nonneg (by omega)];omega
  rw [this];rfl
 have h5:decide ((1:Int)≤(d.length:Int))=true:=decide_eq_true (by have:=h.d1;omega)
 have h6:decide ((d.length:Int)≤512)=true:=decide_eq_true (by have:=h.d5;omega)
 have h7:decide ((p.length:Int)≤16)=true:=decide_eq_true (by have:=h.hp;omega)
 have h8:=aaE hF (ls:=p) (by have:=h.hp;omega) h.Fe
 constructor
 ·simp only [RB,H_,h1,h2,h3,h4,h5,h6,h7,h8,cond_true,Option.bind_some]
 ·simp only [R2,Iu,h1,h2,h3,h4,h5,h6,h7,h8,cond_true,Option.bind_some]
theorem El {S:List UInt8} {i o:Nat} {d:List UInt8} {p:List (List UInt8)} (h:B4 S i o d p):(EP S i o d p).length≤1200∧34≤(EP S i o d p).length:=by
 have:=KU h.Fe
 have h1:=eK i
 have h2:=eK o
 have h3:=eK d.length
 have h4:=eK p.length
 have h5:=h.hs
 have h6:=h.d5
 have h7:=h.hp
 have h8:=J8 i
 have h9:=J8 o
 simp only [EP,List.length_append,this];omega
theorem Rx {F:Nat} (hF:2000 < F) {S:List UInt8} {i o:Nat} {d:List UInt8} {p:List (List UInt8)} (h:B4 S i o d p):HT F S (i:Int) (o:Int) d p=some (0,EP S i o d p):=by
 have hs:=h.hs
 have hi:=h.hi
 have ho:=h.ho
 have hd:=h.d5
 have hp:=h.hp
 have e1:=eK i
 have e2:=eK o
 have e3:=eK d.length
 have cO:50 < F:=by omega
 have h1:=C3 cO (UInt64.ofInt (i:Int)) (l:=S) (by omega)
 rw [oh (by omega)] at h1
 have h2:=C3 cO (UInt64.ofInt (o:Int)) (l:=S ++ enc i) (by simp;omega)
 rw [oh (by omega)] at h2
 have h3:=V9 cO (x:=d) (l:=S ++ enc i ++ enc o) (by omega) (by simp;omega)
 have h4:=UG hF (xs:=p) (by omega) h.Fe (l:=S ++ enc i ++ enc o ++ (enc d.length ++ d)) (by simp;omega)
 have hl:=(El h).1
 have hE:S ++ enc i ++ enc o ++ (enc d.length ++ d) ++ (enc p.length ++ p.flatten)=EP S i o d p:=by simp only [EP,List.append_assoc]
 rw [hE] at h4
 simp only [HT,IG,(W4 hF h).1,xR,v7,T42,K_,Vb F hs,h1,h2,h3,h4,Nu F (show (EP S i o d p).length≤1048576 by omega),Option.bind_some,Bool.not_true,cond_false]
theorem fI {b x r:List UInt8} {pos:Nat} (hp:pos≤b.length) (h:b.drop pos=x ++ r):b.drop (pos + x.length)=r∧pos + x.length≤b.length:=by
 constructor
 ·rw [← List.drop_drop,h,List.drop_left]
 ·have:=congrArg List.length h
  simp at this;omega
theorem Yr {F:Nat} (hF:50 < F) {b:List UInt8} (hb:b.length < 1000000) {pos v:Nat} (hp:pos≤b.length) (hv:v < 2 ^ 63) {r:List UInt8} (h:b.drop pos=enc v ++ r):r9 F (pos:Int) b=some (UInt64.ofNat v,0,((pos + (enc v).length:Nat):Int)):=by
 have hd:=aj_ (v:=v) (by omega) r
 rw [← h] at hd
 rcases t90 hF b (by omega) hp with ⟨v',n,h1,h2⟩ | ⟨h1,_⟩
 ·rw [hd] at h1;cases h1;exact h2
 ·rw [hd] at h1;cases h1
theorem QZ {F:Nat} {b:List UInt8} (hb:b.length < 1000000) {pos:Nat} (hp:pos≤b.length) {s r:List UInt8} (hs:s.length=32) (h:b.drop pos=s ++ r) (last:Int):Bw F (pos:Int) last 0 b=some (s,((pos + 32:Nat):Int),(pos:Int),0):=by
 obtain ⟨h1,h2⟩:=fI hp h
 rw [hs] at h1 h2
 have w1:ag ((b.length:Int) - (pos:Int))=((b.length - pos:Nat):Int):=by rw [cS (by omega) (by omega)];omega
 have c1:decide (((b.length - pos:Nat):Int) < 32)=false:=decide_eq_false (by omega)
 have w2:ag ((pos:Int) + 32)=((pos + 32:Nat):Int):=by rw [cS (by omega) (by omega)];omega
 have ht:(b.drop pos).take (pos + 32 - pos)=s:=by rw [h,Nat.add_sub_cancel_left,← hs,List.take_left]
 simp only [Bw,Fa,GH,Kj,UU,Fq,JV,Du,EU,LH,ec,cond_false,w1,c1,w2,jR (show pos≤pos + 32 by omega) h2,Option.bind_some,ht]
theorem Ls {F:Nat} (hF:50 < F) {b:List UInt8} (hb:b.length < 1000000) {pos v:Nat} (hp:pos≤b.length) {m:Nat} (hm:m < 1000000000) (hv:v≤m) {r:List UInt8} (h:b.drop pos=enc v ++ r) (last:Int):wi F (m:Int) (pos:Int) last 0 b=some ((v:Int),((pos + (enc v).length:Nat):Int),(pos:Int),0):=by
 have hn:=Yr hF hb hp (v:=v) (by omega) h
 have mA:(UInt64.ofNat v).toNat=v:=by rw [UInt64.toNat_ofNat'];exact Nat.mod_eq_of_lt (by omega)
 have c1:decide (UInt64.ofInt (m:Int) < UInt64.ofNat v)=false:=decide_eq_false (by
  show ¬ ((UInt64.ofInt (m:Int)).toNat < (UInt64.ofNat v).toNat)
  rw [mA,oh (by omega)];omega)
 have w1:ag (((UInt64.ofNat v).toNat:Nat):Int)=(v:Int):=by rw [mA];exact cS (by omega) (by omega)
 simp only [wi,Fw,Yk,Kc,Gc,Jl,KD,IU,ec,cond_false,hn,Option.bind_some,c1,w1]
theorem XK {F:Nat} (hF:50 < F) {b:List UInt8} (hb:b.length < 1000000) {pos v:Nat} (hp:pos≤b.length) {m:Nat} (hm:m < 1000000000) (hv:v≤m) {r:List UInt8} (h:b.drop pos=enc v ++ r):Lz F (m:Int) (pos:Int) b=some ((v:Int),0,((pos + (enc v).length:Nat):Int)):=by
 have hn:=Yr hF hb hp (v:=v) (by omega) h
 have mA:(UInt64.ofNat v).toNat=v:=by rw [UInt64.toNat_ofNat'];exact Nat.mod_eq_of_lt (by omega)
 have c0:(if (m:Int) < 0 then (0:Int) else (m:Int))=(m:Int):=if_neg (by omega)
 have c1:decide (UInt64.ofInt (m:Int) < UInt64.ofNat v)=false:=decide_eq_false (by
  show ¬ ((UInt64.ofInt (m:Int)).toNat < (UInt64.ofNat v).toNat)
  rw [mA,oh (by omega)];omega)
 have w1:ag (((UInt64.ofNat v).toNat:Nat):Int)=(v:Int):=by rw [mA];exact cS (by omega) (by omega)
 simp only [Lz,K0,hn,Option.bind_some,ec,cond_false,c0,c1,w1]
theorem Ym {F:Nat} (hF:50 < F) {b:List UInt8} (hb:b.length < 1000000) {pos v:Nat} (hp:pos≤b.length) {m:Nat} (hm:m < 1000000000) (hv:v≤m) {r:List UInt8} (h:b.drop pos=enc v ++ r) (last:Int):Ez F (m:Int) (pos:Int) last 0 b=some ((v:Int),((pos + (enc v).length:Nat):Int),(pos:Int),0):=by
 simp only [Ez,EX,Gf,HQ,YC,Gn,Jm,Fs,ec,cond_false,XK hF hb hp hm hv h,Option.bind_some]
theorem Ry {F:Nat} (hF:50 < F) {b:List UInt8} (hb:b.length < 1000000) {pos:Nat} (hp:pos≤b.length) {m:Nat} (hm:m < 1000000000) {x r:List UInt8} (hx:x.length≤m) (h:b.drop pos=enc x.length ++ (x ++ r)) (last:Int):DF F (m:Int) (pos:Int) last 0 b=some (x,((pos + (enc x.length).length + x.length:Nat):Int),(pos:Int),0):=by
 have hl:=XK hF hb hp hm hx h
 obtain ⟨h1,h2⟩:=fI hp h
 obtain ⟨h3,h4⟩:=fI h2 h1
 generalize (enc x.length).length=n at *
 have w1:ag ((b.length:Int) - ((pos + n:Nat):Int))=((b.length - (pos + n):Nat):Int):=by rw [cS (by omega) (by omega)];omega
 have c1:decide (((b.length - (pos + n):Nat):Int) < (x.length:Int))=false:=decide_eq_false (by omega)
 have w2:ag (((pos + n:Nat):Int) + (x.length:Int))=((pos + n + x.length:Nat):Int):=by rw [cS (by omega) (by omega)];omega
 have ht:(b.drop (pos + n)).take (pos + n + x.length - (pos + n))=x:=by rw [h1,Nat.add_sub_cancel_left,List.take_left]
 simp only [DF,FU,La,KB,Uo,Ic,X3,G2,JV,Du,FW,Ln,ec,cond_false,hl,Option.bind_some,w1,c1,w2,jR (show pos + n≤pos + n + x.length by omega) h4,ht,d9 (show ([]:List UInt8).length + x.length≤1099511627776 by simp;omega),List.nil_append,List.drop_zero,Nat.sub_zero,List.take_length]
theorem XY {F:Nat} (hF:2000 < F) {b:List UInt8} (hb:b.length < 1000000) {pos:Nat} (hp:pos≤b.length) {m:Nat} (hm:m < 1000) {xs:List (List UInt8)} {r:List UInt8} (hx:xs.length≤m) (d_:∀ x ∈ xs,x.length=32) (h:b.drop pos=enc xs.length ++ (xs.flatten ++ r)) (last:Int):∃ l',Iq F (m:Int) (pos:Int) last 0 b=some (((pos + (enc xs.length).length + xs.flatten.length:Nat):Int),l',0,xs):=by
 have hc:=Ym (F:=F) (by omega) hb hp (m:=m) (by omega) hx h last
 obtain ⟨h1,h2⟩:=fI hp h
 have hg:cw ([]:List UInt8) (0:Int) (xs.length:Int)=some []:=by unfold cw;rw [if_pos (by omega)];rfl
 obtain ⟨z,hz,hQ⟩:=cL (f:=fun s:Int×Int×Int×Int×List (List UInt8)=>Ir F (xs.length:Int) b s.1 s.2.1 s.2.2.1 s.2.2.2.1 s.2.2.2.2) (fun s=>∃ (i q:Nat) (l:Int),s=((i:Int),(q:Int),l,(0:Int),xs.take i)∧i≤xs.length∧q≤b.length∧q=pos + (enc xs.length).length + (xs.take i).flatten.length∧b.drop q=(xs.drop i).flatten ++ r) (fun z=>∃ l',z=(((pos + (enc xs.length).length + xs.flatten.length:Nat):Int),l',0,xs)) (fun s=>xs.length - s.1.toNat) (by
  rintro s ⟨i,q,l,rfl,hi,hq,XN,hd⟩
  by_cases hlt:i < xs.length
  ·have c1:decide ((i:Int) < (xs.length:Int))=true:=decide_eq_true (by omega)
   have hx:xs[i]? = some xs[i]:=List.getElem?_eq_getElem hlt
   rw [List.drop_eq_getElem_cons hlt,List.flatten_cons,List.append_assoc] at hd
   have hs:=QZ (F:=F) hb hq (d_ _ (List.getElem_mem hlt)) hd l
   obtain ⟨n1,n2⟩:=fI hq hd
   rw [d_ _ (List.getElem_mem hlt)] at n1 n2
   refine .inl ⟨(((i + 1:Nat):Int),((q + 32:Nat):Int),(q:Int),0,xs.take (i + 1)),?_,⟨i + 1,q + 32,q,rfl,by omega,n2,?_,n1⟩,by simp;omega⟩
   ·simp only [Ir,Dh,c1,cond_true,hs,Option.bind_some,dH (show i < 9223372036854775807 by omega),d9 (show (xs.take i).length + [xs[i]].length≤1099511627776 by simp;omega),sM hx]
   ·rw [sM hx,List.flatten_append,List.length_append,XN]
    simp [d_ _ (List.getElem_mem hlt)];omega
  ·have c1:decide ((i:Int) < (xs.length:Int))=false:=decide_eq_false (by omega)
   have:i=xs.length:=by omega
   subst this
   refine .inr ⟨(((pos + (enc xs.length).length + xs.flatten.length:Nat):Int),l,0,xs),?_,l,rfl⟩
   simp only [Ir,Dh,c1,cond_false,XN,List.take_length]) F ((0:Int),((pos + (enc xs.length).length:Nat):Int),(pos:Int),(0:Int),([]:List (List UInt8))) ⟨0,_,_,rfl,by omega,h2,by simp,by simpa using h1⟩ (by simp;omega)
 obtain ⟨l',rfl⟩:=hQ
 exact ⟨l',by simp only [Iq,Lf,hc,hg,hz,Option.bind_some]⟩
theorem Oi (F:Nat) {b:List UInt8} {pos:Nat} (h:b.length≤pos):zO F (pos:Int) 0 b=some 0:=by
 have c1:decide ((pos:Int) < (b.length:Int))=false:=decide_eq_false (by omega)
 simp only [zO,KA,ec,cond_false,c1]
theorem RS (F:Nat) {b:List UInt8} (hb:b.length < 1000000):A4 F b=some (0,0,0,b):=by
 simp only [A4,Fo,d9 (show ([]:List UInt8).length + b.length≤1099511627776 by simp;omega),Option.bind_some,List.nil_append]
theorem YW {F:Nat} (hF:2000 < F) {S:List UInt8} {i o:Nat} {d:List UInt8} {p:List (List UInt8)} (h:B4 S i o d p):Ht F (EP S i o d p)=some (S,(i:Int),(o:Int),d,p,0):=by
 have hi:=h.hi
 have ho:=h.ho
 have hd:=h.d5
 have hp:=h.hp
 have hl:=(El h).1
 have cO:50 < F:=by omega
 generalize hb:EP S i o d p=b at *
 have fe:b.length < 1000000:=by omega
 have d0:b.drop 0=S ++ (enc i ++ (enc o ++ (enc d.length ++ (d ++ (enc p.length ++ (p.flatten ++ [])))))):=by rw [← hb];simp [EP]
 have r1:=QZ (F:=F) fe (Nat.zero_le _) h.hs d0 0
 obtain ⟨d1,l1⟩:=fI (Nat.zero_le _) d0
 rw [h.hs] at d1 l1
 have r2:=Ls cO fe l1 (m:=15) (by omega) (by omega) d1 ((0:Nat):Int)
 obtain ⟨d2,l2⟩:=fI l1 d1
 have r3:=Ls cO fe l2 (m:=65024) (by omega) ho d2 ((0 + 32:Nat):Int)
 obtain ⟨d3,l3⟩:=fI l2 d2
 have r4:=Ry cO fe l3 (m:=512) (by omega) hd d3 ((0 + 32 + (enc i).length:Nat):Int)
 obtain ⟨d4,l4⟩:=fI l3 d3
 obtain ⟨d5,l5⟩:=fI l4 d4
 obtain ⟨l',r5⟩:=XY hF fe l5 (m:=16) (by omega) hp h.Fe d5 ((0 + 32 + (enc i).length + (enc o).length:Nat):Int)
 obtain ⟨d6,l6⟩:=fI l5 d5
 obtain ⟨d7,l7⟩:=fI l6 d6
 have r6:=Oi F (b:=b) (pos:=0 + 32 + (enc i).length + (enc o).length + (enc d.length).length + d.length + (enc p.length).length + p.flatten.length) (by
  have:=congrArg List.length d7
  simp only [List.length_drop,List.length_nil] at this;omega)
 have z:((0:Nat):Int)=0:=rfl
 simp only [z] at r1 r2 r3 r4 r5 r6
 simp only [Ht,Ex,RS F fe,r1,Option.bind_some]
 rw [show ((15:Nat):Int)=15 from rfl] at r2
 rw [show ((65024:Nat):Int)=65024 from rfl] at r3
 rw [show ((512:Nat):Int)=512 from rfl] at r4
 rw [show ((16:Nat):Int)=16 from rfl] at r5
 simp only [r2,r3,r4,r5,r6,Option.bind_some,ec,cond_false,(W4 hF h).2,Bool.not_true]
structure AY (S:List UInt8) (i n:Nat) (ss:List (List UInt8)):Prop where
 hs:S.length=32
 hi:i < ss.length
 n1:1≤n
 n2:n≤65536
 hl:ss.length≤16
 qq:∀ x ∈ ss,x.length=32
def EH (S:List UInt8) (i n:Nat) (ss:List (List UInt8)):List UInt8:=S ++ (enc i ++ (enc n ++ (enc ss.length ++ ss.flatten)))
theorem OZ {F:Nat} (hF:2000 < F) {S:List UInt8} {i n:Nat} {ss:List (List UInt8)} (h:AY S i n ss):Je F ((S,(i:Int),()),(n:Int),ss,())=some true∧Rh F S (i:Int) (n:Int) ss=some true:=by
 have hi:=h.hi
 have hl:=h.hl
 have h1:decide ((1:Int)≤(ss.length:Int))=true:=decide_eq_true (by omega)
 have h2:decide ((ss.length:Int)≤16)=true:=decide_eq_true (by omega)
 have h3:=aaE hF (ls:=ss) (by omega) h.qq
 have h4:=ab_ F h.hs (i:=i) (m:=(ss.length:Int)) (by omega)
 have h5:decide ((1:Int)≤(n:Int))=true:=decide_eq_true (by have:=h.n1;omega)
 have h6:decide ((n:Int)≤65536)=true:=decide_eq_true (by have:=h.n2;omega)
 constructor
 ·simp only [Je,Jg,h1,h2,h3,h4,h5,h6,cond_true,Option.bind_some]
 ·simp only [Rh,EG,h1,h2,h3,h4,h5,h6,cond_true,Option.bind_some]
theorem FE {S:List UInt8} {i n:Nat} {ss:List (List UInt8)} (h:AY S i n ss):(EH S i n ss).length≤600:=by
 have:=KU h.qq
 have h1:=eK i
 have h2:=eK n
 have h3:=eK ss.length
 have h5:=h.hs
 have h6:=h.hl
 simp only [EH,List.length_append,this];omega
theorem anL {F:Nat} (hF:2000 < F) {S:List UInt8} {i n:Nat} {ss:List (List UInt8)} (h:AY S i n ss):TC F S (i:Int) (n:Int) ss=some (0,EH S i n ss):=by
 have hs:=h.hs
 have hi:=h.hi
 have hl:=h.hl
 have hn:=h.n2
 have e1:=eK i
 have e2:=eK n
 have cO:50 < F:=by omega
 have h1:=C3 cO (UInt64.ofInt (i:Int)) (l:=S) (by omega)
 rw [oh (by omega)] at h1
 have h2:=C3 cO (UInt64.ofInt (n:Int)) (l:=S ++ enc i) (by simp;omega)
 rw [oh (by omega)] at h2
 have h4:=UG hF (xs:=ss) (by omega) h.qq (l:=S ++ enc i ++ enc n) (by simp;omega)
 have hE:S ++ enc i ++ enc n ++ (enc ss.length ++ ss.flatten)=EH S i n ss:=by simp only [EH,List.append_assoc]
 rw [hE] at h4
 have hlen:=FE h
 simp only [TC,Jk,(OZ hF h).1,xR,v7,Wj,KF,Vb F hs,h1,h2,h4,Nu F (show (EH S i n ss).length≤1048576 by omega),Option.bind_some,Bool.not_true,cond_false]
theorem adl {F:Nat} (hF:2000 < F) {S:List UInt8} {i n:Nat} {ss:List (List UInt8)} (h:AY S i n ss):MM F (EH S i n ss)=some (S,(i:Int),(n:Int),ss,0):=by
 have hi:=h.hi
 have hl:=h.hl
 have hn:=h.n2
 have hlen:=FE h
 have cO:50 < F:=by omega
 generalize hb:EH S i n ss=b at *
 have fe:b.length < 1000000:=by omega
 have d0:b.drop 0=S ++ (enc i ++ (enc n ++ (enc ss.length ++ (ss.flatten ++ [])))):=by rw [← hb];simp [EH]
 have r1:=QZ (F:=F) fe (Nat.zero_le _) h.hs d0 0
 obtain ⟨d1,l1⟩:=fI (Nat.zero_le _) d0
 rw [h.hs] at d1 l1
 have r2:=Ls cO fe l1 (m:=15) (by omega) (by omega) d1 ((0:Nat):Int)
 obtain ⟨d2,l2⟩:=fI l1 d1
 have r3:=Ls cO fe l2 (m:=65536) (by omega) hn d2 ((0 + 32:Nat):Int)
 obtain ⟨d3,l3⟩:=fI l2 d2
 obtain ⟨l',r5⟩:=XY hF fe l3 (m:=16) (by omega) hl h.qq d3 ((0 + 32 + (enc i).length:Nat):Int)
 obtain ⟨d6,l6⟩:=fI l3 d3
 obtain ⟨d7,l7⟩:=fI l6 d6
 have r6:=Oi F (b:=b) (pos:=0 + 32 + (enc i).length + (enc n).length + (enc ss.length).length + ss.flatten.length) (by
  have:=congrArg List.length d7
  simp only [List.length_drop,List.length_nil] at this;omega)
 have z:((0:Nat):Int)=0:=rfl
 simp only [z] at r1 r2 r3 r5 r6
 simp only [MM,Ll,RS F fe,r1,Option.bind_some]
 rw [show ((15:Nat):Int)=15 from rfl] at r2
 rw [show ((65536:Nat):Int)=65536 from rfl] at r3
 rw [show ((16:Nat):Int)=16 from rfl] at r5
 simp only [r2,r3,r5,r6,Option.bind_some,ec,cond_false,(OZ hF h).2,Bool.not_true]
def fK (b:List UInt8):List UInt8:=11 :: (enc b.length ++ b)
def fr (F:Nat) (b:List UInt8):List UInt8:=fK b ++ (sh F (fK b)).take 8
theorem WI {F:Nat} {x:List UInt8} (hF:410 + x.length < F) (hx:x.length < 1000000):Hx F x=some ((sh F x).take 8)∧((sh F x).take 8).length=8:=by
 obtain ⟨h1,h2⟩:=EZ hF hx
 have:=zz (l:=sh F x) (k:=8) (by omega)
 exact ⟨by simp only [Hx,Gt,Wi hF hx,Option.bind_some];rw [show (8:Int)=((8:Nat):Int) from rfl,this];rfl,by simp;omega⟩
theorem ya {F:Nat} {b:List UInt8} (hF:5000 < F) (hb:b.length≤2000):Lo F 11 b=some (0,fr F b)∧(fr F b).length=9 + (enc b.length).length + b.length:=by
 have h10:=eK b.length
 have k1:T91 F 11=some true:=by rfl
 have k2:decide ((65536:Int) < (b.length:Int))=false:=decide_eq_false (by omega)
 have k3:UInt8.ofInt 11=11:=by rfl
 have w:ag ((([(11:UInt8)]:List UInt8).length:Int) + 10)=11:=by decide
 have g1:cw (0:UInt8) (0:Int) 11=some []:=by decide
 have g2:aD ([]:List UInt8) [11]=some [11]:=by decide
 have he:=Bu (F:=F) (by omega) (UInt64.ofInt (b.length:Int)) (l:=[11]) (by simp)
 rw [oh (by omega)] at he
 have h92:tY F [11] (UInt64.ofInt (b.length:Int))=some ([11] ++ enc b.length):=by
  simp only [tY,Bd,w,g1,g2,Option.bind_some,he]
 have hh:[11] ++ enc b.length ++ b=fK b:=by simp [fK]
 have hl:(fK b).length=1 + (enc b.length).length + b.length:=by simp [fK];omega
 have g3:aD ([11] ++ enc b.length) b=some (fK b):=by rw [d9 (by simp;omega),hh]
 obtain ⟨c1,c2⟩:=WI (F:=F) (x:=fK b) (by omega) (by omega)
 have g4:aD (fK b) ((sh F (fK b)).take 8)=some (fr F b):=d9 (by omega)
 refine ⟨by simp only [Lo,Gd,k1,k2,k3,Bool.not_true,cond_false,Option.bind_some,h92,g3,c1,g4],?_⟩
 simp only [fr,List.length_append,c2,hl];omega
theorem Ws:∀ a:_root_.Fin 256,pF 0 (ag ((qh (a.val:Int) 127) * 2 ^ min 0 64))=((a.val % 128:Nat):Int):=by decide +kernel
theorem ast:∀ a:_root_.Fin 128,∀ b:_root_.Fin 20,pF ((a.val:Nat):Int) (ag ((qh (b.val:Int) 127) * 2 ^ min 7 64))=((a.val + 128 * b.val:Nat):Int):=by decide +kernel
theorem amn {n:Nat} (h1:128≤n) (h2:n < 16384):enc n=[UInt8.ofNat (n % 128 + 128),UInt8.ofNat (n / 128)]:=by
 simp [enc,gJ,show ¬ n < 128 by omega,show n / 128 < 128 by omega]
theorem Vl {F:Nat} (hF:50 < F) {n:Nat} (h1:1≤n) (h2:n≤2000) (r:List UInt8) (k:Nat) (hk:k≤1 + (enc n).length + r.length) :
  GU F ((11 :: (enc n ++ r)).take k)=some (if k≤(enc n).length then (0,0,false,true) else (((1 + (enc n).length:Nat):Int),(n:Int),true,true)):=by
 have hx:((11 :: (enc n ++ r)).take k).length=k:=by simp;omega
 have at_:∀ j,j < k->((11 :: (enc n ++ r)).take k)[j]? = (11 :: (enc n ++ r))[j]?:=fun j h=>List.getElem?_take_of_lt h
 generalize hX:(11 :: (enc n ++ r)).take k=x at *
 obtain ⟨f,rfl⟩:∃ f,F=f + 1:=⟨F - 1,by omega⟩
 obtain ⟨f,rfl⟩:∃ g,f=g + 1:=⟨f - 1,by omega⟩
 have fin:∀ {s:Int×Int×Bool×Bool},iter (fun s=>nU (f + 1 + 1) x s.1 s.2) (f + 1 + 1) ((0:Int),(0:Int))=some (.inr s)->GU (f + 1 + 1) x=some s:=fun {s} h=>by
  simp only [GU,IM,h,Option.bind_some,bz]
 have w1:ag ((1:Int) + 0)=1:=by decide
 have w2:ag ((7:Int) * 0)=0:=by decide
 have w3:ag ((2:Int) + 0)=2:=by decide
 have g0:cX 0=some 0:=by decide
 by_cases gu:k≤1
 ·rw [if_pos (by have:=J8 n;omega)]
  refine fin (m7 ?_)
  have c:decide ((x.length:Int)≤1)=true:=decide_eq_true (by omega)
  simp only [nU,r_,show decide ((0:Int) < 3)=true by decide,cond_true,w1,c]
 have c1:decide ((x.length:Int)≤1)=false:=decide_eq_false (by omega)
 by_cases hn:n < 128
 ·have he:enc n=[UInt8.ofNat n]:=asa hn
  rw [he] at at_ ⊢
  simp only [List.length_singleton]
  rw [if_neg (by omega)]
  have hx1:x[1]? = some (UInt8.ofNat n):=by rw [at_ 1 (by omega)];rfl
  have hb:(UInt8.ofNat n).toNat=n:=by simp;omega
  have zE:=Ws ⟨n,by omega⟩
  simp only [Nat.mod_eq_of_lt hn] at zE
  refine fin (m7 ?_)
  have c2:decide ((n:Int) < 128)=true:=decide_eq_true (by omega)
  have c3:decide ((n:Int)≤65536)=true:=decide_eq_true (by omega)
  have c4:decide ((0:Int) < (n:Int))=true:=decide_eq_true (by omega)
  have ej:ix x (1:Int)=some (UInt8.ofNat n):=cU (i:=1) hx1
  simp only [nU,r_,show decide ((0:Int) < 3)=true by decide,cond_true,w1,c1,cond_false,ej,Option.bind_some,w2,g0,hb,c2,zE,c3,c4,w3]
  rfl
 ·have he:enc n=[UInt8.ofNat (n % 128 + 128),UInt8.ofNat (n / 128)]:=amn (by omega) (by omega)
  rw [he] at at_ ⊢
  simp only [List.length_cons,List.length_nil]
  have hx1:x[1]? = some (UInt8.ofNat (n % 128 + 128)):=by rw [at_ 1 (by omega)];rfl
  have pn:(UInt8.ofNat (n % 128 + 128)).toNat=n % 128 + 128:=by simp;omega
  have zE:=Ws ⟨n % 128 + 128,by omega⟩
  rw [show (n % 128 + 128) % 128=n % 128 by omega] at zE
  have c2:decide (((n % 128 + 128:Nat):Int) < 128)=false:=decide_eq_false (by omega)
  have ej:ix x (1:Int)=some (UInt8.ofNat (n % 128 + 128)):=cU (i:=1) hx1
  have w4:ag ((0:Int) + 1)=1:=by decide
  have st1:nU (f + 1 + 1) x 0 0=some (.inl (((n % 128:Nat):Int),1)):=by
   simp only [nU,r_,show decide ((0:Int) < 3)=true by decide,cond_true,w1,c1,cond_false,ej,Option.bind_some,w2,g0,pn,c2,zE,w4]
  have w5:ag ((1:Int) + 1)=2:=by decide
  have w6:ag ((7:Int) * 1)=7:=by decide
  have w7:ag ((2:Int) + 1)=3:=by decide
  have g7:cX 7=some 7:=by decide
  by_cases hk2:k≤2
  ·rw [if_pos (by omega)]
   refine fin ((uC (f:=fun s:Int×Int=>nU (f + 1 + 1) x s.1 s.2) st1).trans (m7 ?_))
   have c:decide ((x.length:Int)≤2)=true:=decide_eq_true (by omega)
   simp only [nU,r_,show decide ((1:Int) < 3)=true by decide,cond_true,w5,c]
  ·rw [if_neg (by omega)]
   have mw:x[2]? = some (UInt8.ofNat (n / 128)):=by rw [at_ 2 (by omega)];rfl
   have dw:(UInt8.ofNat (n / 128)).toNat=n / 128:=by simp;omega
   have hi2:=ast ⟨n % 128,by omega⟩ ⟨n / 128,by omega⟩
   simp only at hi2
   rw [show n % 128 + 128 * (n / 128)=n by omega] at hi2
   refine fin ((uC (f:=fun s:Int×Int=>nU (f + 1 + 1) x s.1 s.2) st1).trans (m7 ?_))
   have c:decide ((x.length:Int)≤2)=false:=decide_eq_false (by omega)
   have c2:decide (((n / 128:Nat):Int) < 128)=true:=decide_eq_true (by omega)
   have c3:decide ((n:Int)≤65536)=true:=decide_eq_true (by omega)
   have c4:decide ((0:Int) < ((n / 128:Nat):Int))=true:=decide_eq_true (by omega)
   have Eu:ix x (2:Int)=some (UInt8.ofNat (n / 128)):=cU (i:=2) mw
   simp only [nU,r_,show decide ((1:Int) < 3)=true by decide,cond_true,w5,c,cond_false,Eu,Option.bind_some,w6,g7,dw,c2,hi2,c3,c4,w7]
   rfl
theorem wu (F:Nat) (b:List UInt8):fr F b=11 :: (enc b.length ++ (b ++ (sh F (fK b)).take 8)):=by simp [fr,fK]
theorem WB {F:Nat} (hF:5000 < F) {b:List UInt8} (h1:1≤b.length) (h2:b.length≤2000) {k:Nat} (hk:k < (fr F b).length):uO F ((fr F b).take k)=some (0,[],false,0,(fr F b).take k):=by
 have hl:=(ya hF h2).2
 have h10:=eK b.length
 have hlen:((fr F b).take k).length=k:=by rw [List.length_take];omega
 have hL:=Vl (F:=F) (by omega) h1 h2 (b ++ (sh F (fK b)).take 8) k (by
  have:=congrArg List.length (wu F b)
  simp only [List.length_cons,List.length_append] at this
  simp only [List.length_append];omega)
 rw [← wu F b] at hL
 generalize (fr F b).take k=x at *
 split at hL
 ·simp only [uO,xL,F4,v9,hL,Option.bind_some,Bool.not_true,Bool.not_false,cond_true,cond_false]
 ·have w1:ag (((1 + (enc b.length).length:Nat):Int) + (b.length:Int))=((1 + (enc b.length).length + b.length:Nat):Int):=by rw [cS (by omega) (by omega)];omega
  have w2:ag (((1 + (enc b.length).length + b.length:Nat):Int) + 8)=((1 + (enc b.length).length + b.length + 8:Nat):Int):=by rw [cS (by omega) (by omega)];omega
  have c:decide ((x.length:Int) < ((1 + (enc b.length).length + b.length + 8:Nat):Int))=true:=decide_eq_true (by omega)
  simp only [uO,xL,F4,v9,hL,Option.bind_some,Bool.not_true,cond_true,cond_false,w1,w2,c]
theorem alI {F:Nat} (hF:5000 < F) {b:List UInt8} (h1:1≤b.length) (h2:b.length≤2000):uO F (fr F b)=some (11,b,true,0,[]):=by
 have hl:=(ya hF h2).2
 have h10:=eK b.length
 have hh:(fK b).length=1 + (enc b.length).length + b.length:=by simp [fK];omega
 obtain ⟨c1,c2⟩:=WI (F:=F) (x:=fK b) (by omega) (by omega)
 have hL:=Vl (F:=F) (by omega) h1 h2 (b ++ (sh F (fK b)).take 8) (fr F b).length (by
  have:=congrArg List.length (wu F b)
  simp only [List.length_cons,List.length_append] at this
  simp only [List.length_append];omega)
 rw [← wu F b,List.take_length,if_neg (by omega)] at hL
 have w1:ag (((1 + (enc b.length).length:Nat):Int) + (b.length:Int))=((1 + (enc b.length).length + b.length:Nat):Int):=by rw [cS (by omega) (by omega)];omega
 have w2:ag (((1 + (enc b.length).length + b.length:Nat):Int) + 8)=((1 + (enc b.length).length + b.length + 8:Nat):Int):=by rw [cS (by omega) (by omega)];omega
 have c:decide (((fr F b).length:Int) < ((1 + (enc b.length).length + b.length + 8:Nat):Int))=false:=decide_eq_false (by omega)
 have s1:bW (fr F b).length (0:Int) ((1 + (enc b.length).length + b.length:Nat):Int)=some (0,1 + (enc b.length).length + b.length):=jR (a:=0) (by omega) (by omega)
 have s2:bW (fr F b).length ((1 + (enc b.length).length + b.length:Nat):Int) ((1 + (enc b.length).length + b.length + 8:Nat):Int)=some (1 + (enc b.length).length + b.length,1 + (enc b.length).length + b.length + 8):=jR (by omega) (by omega)
 have s3:bW (fr F b).length ((1 + (enc b.length).length:Nat):Int) ((1 + (enc b.length).length + b.length:Nat):Int)=some (1 + (enc b.length).length,1 + (enc b.length).length + b.length):=jR (by omega) (by omega)
 have s4:bW (fr F b).length ((1 + (enc b.length).length + b.length + 8:Nat):Int) (((fr F b).length:Nat):Int)=some (1 + (enc b.length).length + b.length + 8,(fr F b).length):=jR (by omega) (by omega)
 have t1:((fr F b).drop 0).take (1 + (enc b.length).length + b.length - 0)=fK b:=by
  rw [List.drop_zero,Nat.sub_zero,← hh,fr,List.take_left]
 have t2:((fr F b).drop (1 + (enc b.length).length + b.length)).take (1 + (enc b.length).length + b.length + 8 - (1 + (enc b.length).length + b.length))=(sh F (fK b)).take 8:=by
  rw [Nat.add_sub_cancel_left,← hh,fr,List.drop_left,List.take_of_length_le (by omega)]
 have t3:((fr F b).drop (1 + (enc b.length).length)).take (1 + (enc b.length).length + b.length - (1 + (enc b.length).length))=b:=by
  rw [Nat.add_sub_cancel_left,wu,show 1 + (enc b.length).length=(11 :: enc b.length:List UInt8).length by simp;omega,← List.cons_append,List.drop_left,List.take_left]
 have b1:an (fr F b).length (0:Int)=some 0:=iy (i:=0) (by omega)
 have b2:(fr F b)[0]? = some 11:=by rw [wu];rfl
 have b3:((fr F b).length - (1 + (enc b.length).length + b.length + 8):Nat)=0:=by omega
 have b4:((11:UInt8).toNat:Int)=11:=by rfl
 simp only [uO,xL,F4,v9,hL,Option.bind_some,Bool.not_true,cond_true,cond_false,w1,w2,c,s1,s2,s3,s4,t1,t2,t3,c1,bne_self_eq_false,b1,b2,b3,b4,d9 (show ([]:List UInt8).length + b.length≤1099511627776 by simp;omega),List.nil_append]
 rfl
theorem Nh (F:Nat) {w0 w:List UInt8} (h:w.length < 1000000):Kq F 1 w0 w=some (0,w,w0,[]):=by
 have h1:vQ F 1=some true:=by rfl
 have hs:bC (List.replicate w.length (0:UInt8)) 0 w (Nat.min w.length (List.replicate w.length (0:UInt8)).length)=w:=by
  simp [bC]
 simp only [Kq,G4,h1,Bool.not_true,cond_false,Option.bind_some,show ((1:Int) == 1)=true by decide,cond_true,rz (0:UInt8) (show w.length≤1099511627776 by omega),hs]
theorem aa7 (F:Nat) {a b c d:List UInt8} (h:a.length + c.length < 1000000000) (p q:Int) (r:Bool):tc F ((#v[(a,b,()),(c,d,())]:Vector ((List UInt8)×(List UInt8)×Unit) 2),p,q,r,())=some ((a.length + c.length:Nat):Int):=by
 have v0:dc (#v[(a,b,()),(c,d,())]:Vector ((List UInt8)×(List UInt8)×Unit) 2) (0:Int)=some (a,b,()):=by rfl
 have v1:dc (#v[(a,b,()),(c,d,())]:Vector ((List UInt8)×(List UInt8)×Unit) 2) (1:Int)=some (c,d,()):=by rfl
 have w:ag ((a.length:Int) + (c.length:Int))=((a.length + c.length:Nat):Int):=by rw [cS (by omega) (by omega)];omega
 simp only [tc,H7,v0,v1,Option.bind_some,w]
theorem NC (F:Nat) {a b c d:List UInt8} (h:a.length + c.length < 1000000000) {p:Nat} (hp:p < 2000000000) (q:Int) (r:Bool):sX F ((#v[(a,b,()),(c,d,())]:Vector ((List UInt8)×(List UInt8)×Unit) 2),(p:Int),q,r,())=some ((p:Int) - ((a.length + c.length:Nat):Int)):=by
 simp only [sX,Ld,aa7 F h,Option.bind_some,cS (show -9223372036854775808≤(p:Int) - ((a.length + c.length:Nat):Int) by omega) (by omega)]
theorem aeU (F:Nat) (a b c d:List UInt8) (p q:Int) (r:Bool):wv F ((#v[(a,b,()),(c,d,())]:Vector ((List UInt8)×(List UInt8)×Unit) 2),p,q,r,()) (0:Int)=some (a.length:Int):=by
 have h1:vQ F 0=some true:=by rfl
 have v0:dc (#v[(a,b,()),(c,d,())]:Vector ((List UInt8)×(List UInt8)×Unit) 2) (0:Int)=some (a,b,()):=by rfl
 simp only [wv,Jt,h1,Bool.not_true,cond_false,v0,Option.bind_some]
def vE (p:Nat) (cut:Int) (s x:List UInt8):Nat×Int×Bool:=
 if p < s.length + x.length then (0,7,false) else if 0≤cut∧cut < s.length + x.length then ((cut - s.length).toNat,15,true) else (x.length,0,false)
theorem ajc (F:Nat) {s x:List UInt8} (hx:x.length < 1000000) (hs:s.length < 1000000000) {p:Nat} (hp:p < 2000000000) {cut:Int} (hc:0≤cut->(s.length:Int)≤cut) (lD:cut < 9223372036854775808) :
  ze F 0 x (p:Int) cut false s [] [] []=some (((vE p cut s x).1:Int),(vE p cut s x).2.1,(vE p cut s x).2.2,s ++ x.take (vE p cut s x).1,[],[],x.take (vE p cut s x).1):=by
 have h1:vQ F 0=some true:=by rfl
 have hl:=NC F (a:=s) (b:=[]) (c:=[]) (d:=[]) (by simpa using hs) hp cut false
 have ht:=aa7 F (a:=s) (b:=[]) (c:=[]) (d:=[]) (by simpa using hs) (p:Int) cut false
 simp only [List.length_nil,Nat.add_zero] at hl ht
 have i0:((0:Int) == 1)=false:=by decide
 have i1:((0:Int) == 0)=true:=by decide
 have i2:(ag ((1:Int) - 0) == 1)=true:=by decide
 unfold vE
 by_cases hpx:p < s.length + x.length
 ·have c1:decide ((p:Int) - (s.length:Int) < (x.length:Int))=true:=decide_eq_true (by omega)
  simp only [ze,vv,h1,Bool.not_true,cond_false,Option.bind_some,hl,c1,cond_true,if_pos hpx,List.take_zero,List.append_nil]
  rfl
 ·have c1:decide ((p:Int) - (s.length:Int) < (x.length:Int))=false:=decide_eq_false (by omega)
  rw [if_neg hpx]
  have done:∀ (k:Nat),k≤x.length->bk x (0:Int) ((k:Nat):Int)=some (x.take k)∧aD s (x.take k)=some (s ++ x.take k)∧aD ([]:List UInt8) (x.take k)=some (x.take k):=fun k hk=>⟨zz hk,d9 (by simp;omega),by rw [d9 (by simp;omega)];rfl⟩
  by_cases h0:0≤cut
  ·have c2:decide ((0:Int)≤cut)=true:=decide_eq_true h0
   have wc:ag (cut - (s.length:Int))=cut - (s.length:Int):=cS (by omega) (by omega)
   have hsc:=hc h0
   by_cases h3:cut < s.length + x.length
   ·have c3:decide (cut - (s.length:Int) < (x.length:Int))=true:=decide_eq_true (by omega)
    rw [if_pos ⟨h0,h3⟩]
    obtain ⟨d1,d2,d3⟩:=done (cut - s.length).toNat (by omega)
    have e1:cut - (s.length:Int)=(((cut - s.length).toNat:Nat):Int):=by omega
    simp only [ze,vv,h1,Bool.not_true,cond_false,Option.bind_some,hl,c1,c2,cond_true,ht,wc,c3,CE,wj,i0,i1,i2]
    rw [e1]
    simp only [d1,d2,d3,Option.bind_some,Int.toNat_natCast]
   ·have c3:decide (cut - (s.length:Int) < (x.length:Int))=false:=decide_eq_false (by omega)
    rw [if_neg (fun h=>h3 h.2)]
    obtain ⟨d1,d2,d3⟩:=done x.length (Nat.le_refl _)
    simp only [ze,vv,h1,Bool.not_true,cond_false,Option.bind_some,hl,c1,c2,cond_true,ht,wc,c3,CE,wj,i0,i1,i2,d1,d2,d3]
  ·have c2:decide ((0:Int)≤cut)=false:=decide_eq_false h0
   rw [if_neg (fun h=>h0 h.1)]
   obtain ⟨d1,d2,d3⟩:=done x.length (Nat.le_refl _)
   simp only [ze,vv,h1,Bool.not_true,cond_false,Option.bind_some,hl,c1,c2,cond_true,CE,wj,i0,i1,i2,d1,d2,d3]
theorem akl {F:Nat} (hF:5000 < F) {b:List UInt8} (h1:1≤b.length) (h2:b.length≤2000) {s:List UInt8} (hs:s.length < 1000000000) {p:Nat} (hp:p < 2000000000) {cut:Int} (hc:0≤cut->(s.length:Int)≤cut) (lD:cut < 9223372036854775808) :
  (wm F 11 b (p:Int) cut false 0 s [] [] [] []=some (11,b,true,true,false,0,s ++ fr F b,[],[],[],[])∧s.length + (fr F b).length≤p∧(0≤cut->((s ++ fr F b).length:Int)≤cut)) ∨
  (∃ s' d y,wm F 11 b (p:Int) cut false 0 s [] [] [] []=some (0,[],false,true,d,0,s',[],[],[],y)∧s'.length≤s.length + (fr F b).length∧(p < s.length + (fr F b).length∧s'=s∨s'.length≤p∧0≤cut)∧(0≤cut->(s'.length:Int)≤cut)):=by
 obtain ⟨e1,e2⟩:=ya hF h2
 have h10:=eK b.length
 have kV:=ajc F (s:=s) (x:=fr F b) (by omega) hs hp hc lD
 have feed:∀ x:List UInt8,x.length≤5000->Nv F x 0 []=some (0,x):=fun x hx=>by
  simp only [Nv,F3,show decide ((0:Int) < 0)=false by decide,cond_false,d9 (show ([]:List UInt8).length + x.length≤1099511627776 by simp;omega),List.nil_append,Option.bind_some]
 unfold vE at kV
 by_cases hpx:p < s.length + (fr F b).length
 ·rw [if_pos hpx] at kV
  have hn:=WB hF h1 h2 (k:=0) (by omega)
  have xZ:=Nh F (w0:=[]) (w:=(fr F b).take 0) (by simp)
  have lZ:=feed ((fr F b).take 0) (by simp)
  rw [List.take_zero] at hn xZ lZ
  refine .inr ⟨s,false,[],?_,by omega,.inl ⟨hpx,rfl⟩,hc⟩
  simp only [wm,xu,e1,Option.bind_some,ec,cond_false,kV,xZ,lZ,hn,tR,cond_true,List.take_zero,List.append_nil]
  rfl
 rw [if_neg hpx] at kV
 by_cases Gz:0≤cut∧cut < s.length + (fr F b).length
 ·rw [if_pos Gz] at kV
  have hsc:=hc Gz.1
  have hk:(cut - s.length).toNat < (fr F b).length:=by omega
  have hn:=WB hF h1 h2 hk
  have xZ:=Nh F (w0:=[]) (w:=(fr F b).take (cut - s.length).toNat) (by simp;omega)
  have lZ:=feed ((fr F b).take (cut - s.length).toNat) (by simp;omega)
  refine .inr ⟨s ++ (fr F b).take (cut - s.length).toNat,true,(fr F b).take (cut - s.length).toNat,?_,by simp;omega,.inr ⟨by simp;omega,Gz.1⟩,fun h=>by simp;omega⟩
  simp only [wm,xu,e1,Option.bind_some,ec,cond_false,kV,xZ,lZ,hn,tR,cond_true]
  rfl
 ·rw [if_neg Gz,List.take_length] at kV
  have hn:=alI hF h1 h2
  have xZ:=Nh F (w0:=[]) (w:=fr F b) (by omega)
  have lZ:=feed (fr F b) (by omega)
  refine .inl ⟨?_,by omega,fun h=>by simp;omega⟩
  simp only [wm,xu,e1,Option.bind_some,ec,cond_false,kV,xZ,lZ,hn,tR,cond_true]
  rfl
end Go.Proofs.YtiahcmabcbpcpaaGreatDoor
namespace Go.Proofs.YtiahcmabcbpcpaaGreatDoor
open Go.Tw
def chunk (D:List UInt8) (k:Nat):List UInt8:=(D.drop (512 * k)).take 512
theorem abf (F:Nat):∀ (n:Nat) (x:List UInt8),x.length≤512 * n->(blk F n x).length=(x.length + 511) / 512
 | 0,x,h=>by simp [blk];omega
 | n + 1,x,h=>by
  unfold blk
  split
  ·rename_i h0;rw [h0];rfl
  ·have:=abf F n (x.drop 512) (by simp;omega)
   simp only [List.length_cons,this,List.length_drop];omega
theorem ZT (F:Nat):∀ (n:Nat) (x:List UInt8) (k:Nat),x.length≤512 * n->512 * k < x.length->(blk F n x)[k]? = some (sh F (0 :: chunk x k))
 | 0,x,k,h,hk=>by omega
 | n + 1,x,k,h,hk=>by
  unfold blk
  rw [if_neg (by omega)]
  cases k with
  | zero=>simp [chunk]
  | succ k=>
   rw [List.getElem?_cons_succ,ZT F n (x.drop 512) k (by simp;omega) (by simp;omega)]
   simp only [chunk,List.drop_drop]
   rw [show 512 + 512 * k=512 * (k + 1) by omega]
structure dL (F:Nat) (S:List UInt8) (i:Nat) (D:List UInt8) (ss:List (List UInt8)):Prop where
 hF:5000 < F
 hd:AY S i D.length ss
 d4:D.length≤4000
 root:rt F F ss=S
 si:ss[i]? = some (hsh F D)
 v:lP F S (i:Int) D ss=true
def Lv (F:Nat) (D:List UInt8):List (List UInt8):=blk F 128 D
section
variable {F:Nat} {S:List UInt8} {i:Nat} {D:List UInt8} {ss:List (List UInt8)} (H:dL F S i D ss)
include H
theorem dL.d1:1≤D.length:=H.hd.n1
theorem dL.len:(Lv F D).length=(D.length + 511) / 512:=abf F 128 D (by have:=H.d4;omega)
theorem dL.l8:1≤(Lv F D).length∧(Lv F D).length≤8:=by have:=H.len;have:=H.d1;have:=H.d4;omega
theorem dL.RG:∀ x ∈ Lv F D,x.length=32:=SB (by have:=H.hF;omega) 128 D
theorem dL.lt {k:Nat} (hk:k < (Lv F D).length):512 * k < D.length:=by have:=H.len;omega
theorem dL.at_ {k:Nat} (hk:k < (Lv F D).length):(Lv F D)[k]? = some (sh F (0 :: chunk D k)):=ZT F 128 D k (by have:=H.d4;omega) (H.lt hk)
theorem dL.ch {k:Nat} (hk:k < (Lv F D).length):1≤(chunk D k).length∧(chunk D k).length=min 512 (D.length - 512 * k):=by have:=H.lt hk;simp [chunk];omega
theorem dL.part {k:Nat} (hk:k < (Lv F D).length):B4 S i (512 * k) (chunk D k) (bT F F (Lv F D) k):=by
 have h8:=H.l8
 have hF:=H.hF
 have hlt:=H.lt hk
 have h4:=H.d4
 obtain ⟨c1,c2⟩:=H.ch hk
 have hp:=pU (F:=F) F (Lv F D) k (by omega) (by omega) hk
 exact ⟨H.hd.hs,by have:=H.hd.hi;have:=H.hd.hl;omega,by omega,by omega,c1,by omega,by omega,Ij (by omega) F (Lv F D) k (by omega) H.RG (by omega) hk⟩
theorem dL.blocks:wo F D (512:Int)=some ((0:Int),Lv F D):=by
 have hF:=H.hF
 have h4:=H.d4
 have hl:=OJ (F:=F) (by omega) 128 F D [] (by omega) (by omega) (by simp)
 have h3:¬ (1048576:Int) < (D.length:Int):=by omega
 have h4:¬ (512:Int) < (1:Int):=by omega
 rw [List.nil_append] at hl
 simp only [wo,BY,h3,h4,decide_false,cond_false,hl,Option.bind_some];rfl
theorem dL.num {k:Nat} (hk:k < (Lv F D).length):G6 F ((512 * k:Nat):Int) (D.length:Int)=some ((k:Int),true):=by
 have hlt:=H.lt hk
 have h4:=H.d4
 have c1:decide (((512 * k:Nat):Int) < 0)=false:=decide_eq_false (by omega)
 have c2:decide ((D.length:Int)≤((512 * k:Nat):Int))=false:=decide_eq_false (by omega)
 have c3:(Int.tmod ((512 * k:Nat):Int) 512 != 0)=false:=by
  have:Int.tmod ((512 * k:Nat):Int) 512=0:=by rw [Int.tmod_eq_emod_of_nonneg (by omega)];omega
  rw [this];rfl
 have w:ag (Int.tdiv ((512 * k:Nat):Int) 512)=(k:Int):=by
  rw [Int.tdiv_eq_ediv_of_nonneg (by omega),cS (by omega) (by omega)];omega
 simp only [G6,JA,c1,c2,c3,cond_false,w]
theorem dL.ext {k:Nat} (hk:k < (Lv F D).length):Hg F (D.length:Int) (512:Int) (k:Int)=some (((chunk D k).length:Nat):Int):=by
 have hlt:=H.lt hk
 have h4:=H.d4
 obtain ⟨c1,c2⟩:=H.ch hk
 have w1:ag ((k:Int) * 512)=((512 * k:Nat):Int):=by rw [cS (by omega) (by omega)];omega
 have w2:ag ((D.length:Int) - ((512 * k:Nat):Int))=((D.length - 512 * k:Nat):Int):=by rw [cS (by omega) (by omega)];omega
 have w3:(if ((D.length - 512 * k:Nat):Int) < 512 then ((D.length - 512 * k:Nat):Int) else 512)=(((chunk D k).length:Nat):Int):=by rw [c2];split<;>omega
 simp only [Hg,EJ,w1,w2,w3]
theorem dL.send {k:Nat} (hk:k < (Lv F D).length):Oy F ((512 * k:Nat):Int) S (i:Int) D=some (S,(i:Int),((512 * k:Nat):Int),chunk D k,bT F F (Lv F D) k,0):=by
 have hF:=H.hF
 have h8:=H.l8
 have hlt:=H.lt hk
 have h4:=H.d4
 obtain ⟨c1,c2⟩:=H.ch hk
 have w1:ag ((k:Int) * 512)=((512 * k:Nat):Int):=by rw [cS (by omega) (by omega)];omega
 have w2:ag (((512 * k:Nat):Int) + (((chunk D k).length:Nat):Int))=((512 * k + (chunk D k).length:Nat):Int):=by rw [cS (by omega) (by omega)];omega
 have hg:bk D ((512 * k:Nat):Int) ((512 * k + (chunk D k).length:Nat):Int)=some (chunk D k):=by
  rw [lR (by omega) (by omega),Nat.add_sub_cancel_left,c2]
  unfold chunk
  congr 1
  rw [List.take_eq_take_iff];simp only [List.length_drop];omega
 have hp:=ap9 (F:=F) (by omega) H.RG (by omega) hk
 simp only [Oy,GV,H.num hk,Option.bind_some,Bool.not_true,cond_false,Yu,En,H.blocks,ec,hp,H.ext hk,w1,w2,hg,d9 (show ([]:List UInt8).length + (chunk D k).length≤1099511627776 by simp;omega),List.nil_append]
end
def dS (D:List UInt8) (P:Nat) (q:Nat->Bool):List (List UInt8):=(List.range P).map fun k=>bif q k then chunk D k else []
def pS (F:Nat) (D:List UInt8) (P:Nat) (q:Nat->Bool):List (List (List UInt8)):=(List.range P).map fun k=>bif q k then bT F F (Lv F D) k else []
theorem n8 (D:List UInt8) (P:Nat) (q:Nat->Bool):(dS D P q).length=P:=by simp [dS]
theorem ZP (F:Nat) (D:List UInt8) (P:Nat) (q:Nat->Bool):(pS F D P q).length=P:=by simp [pS]
theorem BO (D:List UInt8) {P:Nat} (q:Nat->Bool) {k:Nat} (h:k < P):(dS D P q)[k]? = some (bif q k then chunk D k else []):=by simp [dS,h]
theorem akF (F:Nat) (D:List UInt8) {P:Nat} (q:Nat->Bool) {k:Nat} (h:k < P):(pS F D P q)[k]? = some (bif q k then bT F F (Lv F D) k else []):=by simp [pS,h]
theorem map_set {α:Type} {P k:Nat} (f g:Nat->α) (hk:∀ j,j ≠ k->f j=g j):((List.range P).map f).set k (g k)=(List.range P).map g:=by
 apply List.ext_getElem?
 intro j
 rw [List.getElem?_set]
 split
 ·rename_i e;subst e
  by_cases h:k < P
  ·simp [h]
  ·simp [h]
 ·rename_i e
  simp only [List.getElem?_map]
  by_cases h:j < P
  ·simp [h,hk j (fun e'=>e e'.symm)]
  ·simp [h]
def jl (q:Nat->Bool) (k:Nat):Nat->Bool:=fun j=>Nat.beq j k || q j
theorem Dr (q:Nat->Bool) (k:Nat):jl q k k=true:=by simp [jl]
theorem z0 (q:Nat->Bool) {k j:Nat} (h:j ≠ k):jl q k j=q j:=by
 have:Nat.beq j k=false:=by
  cases h':Nat.beq j k with
  | false=>rfl
  | true=>exact absurd (ay h') h
 simp [jl,this]
theorem ahd (D:List UInt8) (P:Nat) (q:Nat->Bool) (k:Nat):(dS D P q).set k (chunk D k)=dS D P (jl q k):=by
 have:=map_set (P:=P) (k:=k) (fun k=>bif q k then chunk D k else []) (fun j=>bif jl q k j then chunk D j else []) (fun j h=>by rw [z0 q h])
 simp only [Dr,cond_true] at this
 exact this
theorem ark (F:Nat) (D:List UInt8) (P:Nat) (q:Nat->Bool) (k:Nat):(pS F D P q).set k (bT F F (Lv F D) k)=pS F D P (jl q k):=by
 have:=map_set (P:=P) (k:=k) (fun k=>bif q k then bT F F (Lv F D) k else []) (fun j=>bif jl q k j then bT F F (Lv F D) j else []) (fun j h=>by rw [z0 q h])
 simp only [Dr,cond_true] at this
 exact this
theorem abx (F:Nat) (D:List UInt8) {P:Nat} {q q':Nat->Bool} (h:∀ k,k < P->q k=q' k):dS D P q=dS D P q'∧pS F D P q=pS F D P q':=by
 constructor <;>
 ·apply List.map_congr_left
  intro k hk
  rw [h k (List.mem_range.1 hk)]
theorem zf {α:Type} {l:List α} (h:1≤l.length):fA l=false:=by cases l<;>first | rfl | simp at h
section
variable {F:Nat} {S:List UInt8} {i:Nat} {D:List UInt8} {ss:List (List UInt8)} (H:dL F S i D ss)
include H
theorem dL.see {k:Nat} (hk:k < (Lv F D).length):TX F (hsh F D) (D.length:Int) (512:Int) (k:Int) (chunk D k) (bT F F (Lv F D) k)=some true:=by
 have hF:=H.hF
 have h8:=H.l8
 have h4:=H.d4
 have h1:=H.d1
 have hL:=H.len
 obtain ⟨c1,c2⟩:=H.ch hk
 have k1:decide ((D.length:Int) < 1)=false:=decide_eq_false (by omega)
 have k2:decide ((512:Int) < 1)=false:=by decide
 have k3:decide ((k:Int) < 0)=false:=decide_eq_false (by omega)
 have k4:((D.length:Int) == 0)=false:=by
  have:¬ (D.length:Int)=0:=by omega
  simpa using this
 have hq:BT (ag ((D.length:Int) - 1)) 512=some (((D.length - 1) / 512:Nat):Int):=by
  have:ag ((D.length:Int) - 1)=((D.length - 1:Nat):Int):=by rw [cS (by omega) (by omega)];omega
  rw [this];unfold BT
  rw [if_neg (by omega),Int.tdiv_eq_ediv_of_nonneg (by omega),cS (by omega) (by omega)];rfl
 have hc:HY F (D.length:Int) 512=some (((Lv F D).length:Nat):Int):=by
  have w:ag ((((D.length - 1) / 512:Nat):Int) + 1)=(((Lv F D).length:Nat):Int):=by rw [cS (by omega) (by omega)];omega
  simp only [HY,KC,k4,cond_false,hq,Option.bind_some,w]
 have k5:decide ((((Lv F D).length:Nat):Int)≤(k:Int))=false:=decide_eq_false (by omega)
 have hv:=ai9 (F:=F) (by omega) H.RG (by omega) (H.at_ hk)
 have hl:=XI (F:=F) (x:=chunk D k) (by omega) (by omega)
 have hr:rt F F (Lv F D)=hsh F D:=rfl
 rw [hr] at hv
 simp only [TX,HO,k1,k2,k3,cond_false,hc,Option.bind_some,k5,H.ext hk,bne_self_eq_false,hl,hv]
theorem dL.take {k:Nat} (hk:k < (Lv F D).length) {q:Nat->Bool} (hq:q k=false) :
  JS F S (i:Int) ((512 * k:Nat):Int) (chunk D k) (bT F F (Lv F D) k) S (i:Int) (D.length:Int) ss (dS D (Lv F D).length q) (pS F D (Lv F D).length q)=some (0,dS D (Lv F D).length (jl q k),pS F D (Lv F D).length (jl q k)):=by
 have hF:=H.hF
 have h8:=H.l8
 have h4:=H.d4
 obtain ⟨c1,c2⟩:=H.ch hk
 have hp:=pU (F:=F) F (Lv F D) k (by omega) (by omega) hk
 have hi:=(aM H.si).1
 have b1:an (dS D (Lv F D).length q).length (k:Int)=some k:=iy (by rw [n8];exact hk)
 have b2:an (pS F D (Lv F D).length q).length (k:Int)=some k:=iy (by rw [ZP];exact hk)
 have g1:(dS D (Lv F D).length q)[k]? = some []:=by rw [BO D q hk,hq];rfl
 simp only [JS,Lu,H.num hk,Option.bind_some,Bool.not_true,cond_false,beq_self_eq_true,Bool.and_true,b1,g1,show fA ([]:List UInt8)=true from rfl,cond_true,iy hi,H.si,H.see hk,IB (F:=F) (show (chunk D k).length≤1000000 by omega),zf c1,tv (F:=F) (show (bT F F (Lv F D) k).length≤1000000 by omega),b2,ahd,ark]
end
def bV (P:Nat) (q:Nat->Bool):List Nat:=(List.range P).filter q
def eN (P:Nat) (q:Nat->Bool):List Nat:=(List.range P).filter fun k=>!q k
def eo (l:List Nat):List Int:=l.map fun k=>((512 * k:Nat):Int)
theorem ym (q:Nat->Bool) (i:Nat):(List.range (i + 1)).filter q=(List.range i).filter q ++ (if q i then [i] else []):=by
 rw [List.range_succ,List.filter_append];congr 1
 cases h:q i<;>simp [h]
section
variable {F:Nat} {S:List UInt8} {i:Nat} {D:List UInt8} {ss:List (List UInt8)} (H:dL F S i D ss)
include H
theorem dL.missing (q:Nat->Bool) (a:(List UInt8×Int×Unit)×Int×List (List UInt8)×Unit) (pp:List (List (List UInt8))) :
  Fv F ((a,dS D (Lv F D).length q,pp,()),())=some (eo (eN (Lv F D).length q)):=by
 have hF:=H.hF
 have h8:=H.l8
 obtain ⟨z,hz,hQ⟩:=cL (f:=fun s:Int×List Int=>DB F (dS D (Lv F D).length q) ((dS D (Lv F D).length q).length:Int) s.1 s.2) (fun s=>∃ j:Nat,s=((j:Int),eo (eN j q))∧j≤(Lv F D).length) (fun z=>z=eo (eN (Lv F D).length q)) (fun s=>(Lv F D).length - s.1.toNat) (by
  rintro s ⟨j,rfl,hj⟩
  by_cases hlt:j < (Lv F D).length
  ·have c1:decide ((j:Int) < (((dS D (Lv F D).length q).length:Nat):Int))=true:=decide_eq_true (by rw [n8];omega)
   have hx:=BO D q hlt
   have w:ag ((j:Int) * 512)=((512 * j:Nat):Int):=by rw [cS (by omega) (by omega)];omega
   have hm:(eN j q).length≤j:=by have:=List.length_filter_le (fun k=>!q k) (List.range j);simpa [eN] using this
   cases hq:q j with
   | false=>
    rw [hq] at hx
    refine .inl ⟨(((j + 1:Nat):Int),eo (eN (j + 1) q)),?_,⟨j + 1,rfl,by omega⟩,by simp;omega⟩
    have he:eo (eN (j + 1) q)=eo (eN j q) ++ [((512 * j:Nat):Int)]:=by simp [eo,eN,ym,hq]
    have hg:aD (eo (eN j q)) [((512 * j:Nat):Int)]=some (eo (eN j q) ++ [((512 * j:Nat):Int)]):=d9 (by simp [eo];omega)
    simp only [DB,xd,c1,cond_true,cU hx,Option.bind_some,cond_false,show fA ([]:List UInt8)=true from rfl,w,hg,dH (show j < 9223372036854775807 by omega),he]
   | true=>
    rw [hq] at hx
    refine .inl ⟨(((j + 1:Nat):Int),eo (eN (j + 1) q)),?_,⟨j + 1,rfl,by omega⟩,by simp;omega⟩
    have he:eo (eN (j + 1) q)=eo (eN j q):=by simp [eo,eN,ym,hq]
    simp only [DB,xd,c1,cond_true,cU hx,Option.bind_some,zf (H.ch hlt).1,cond_false,dH (show j < 9223372036854775807 by omega),he]
  ·have c1:decide ((j:Int) < (((dS D (Lv F D).length q).length:Nat):Int))=false:=decide_eq_false (by rw [n8];omega)
   have:j=(Lv F D).length:=by omega
   subst this
   exact .inr ⟨eo (eN (Lv F D).length q),by simp only [DB,xd,c1,cond_false],rfl⟩) F ((0:Int),([]:List Int)) ⟨0,rfl,by omega⟩ (by simp;omega)
 subst hQ
 simp only [Fv,J0,hz,Option.bind_some]
theorem dL.bytes (q:Nat->Bool) (a:(List UInt8×Int×Unit)×Int×List (List UInt8)×Unit) (pp:List (List (List UInt8))):∃ v,v_ F ((a,dS D (Lv F D).length q,pp,()),())=some v:=by
 have hF:=H.hF
 have h8:=H.l8
 obtain ⟨z,hz,_⟩:=cL (f:=fun s:Int×Int=>Ay F (dS D (Lv F D).length q) ((dS D (Lv F D).length q).length:Int) s.1 s.2) (fun s=>∃ (j:Nat) (v:Int),s=(v,(j:Int))∧j≤(Lv F D).length) (fun _=>True) (fun s=>(Lv F D).length - s.2.toNat) (by
  rintro s ⟨j,v,rfl,hj⟩
  by_cases hlt:j < (Lv F D).length
  ·have c1:decide ((j:Int) < (((dS D (Lv F D).length q).length:Nat):Int))=true:=decide_eq_true (by rw [n8];omega)
   have hx:=BO D q hlt
   generalize (bif q j then chunk D j else [])=x at hx
   cases hn:fA x with
   | true=>exact .inl ⟨(ag (v + 0),((j + 1:Nat):Int)),by simp only [Ay,wZ,c1,cond_true,cU hx,Option.bind_some,hn,dH (show j < 9223372036854775807 by omega)],⟨j + 1,_,rfl,by omega⟩,by simp;omega⟩
   | false=>exact .inl ⟨(ag (v + (x.length:Int)),((j + 1:Nat):Int)),by simp only [Ay,wZ,c1,cond_true,cU hx,Option.bind_some,hn,cond_false,dH (show j < 9223372036854775807 by omega)],⟨j + 1,_,rfl,by omega⟩,by simp;omega⟩
  ·have c1:decide ((j:Int) < (((dS D (Lv F D).length q).length:Nat):Int))=false:=decide_eq_false (by rw [n8];omega)
   exact .inr ⟨v,by simp only [Ay,wZ,c1,cond_false],trivial⟩) F ((0:Int),(0:Int)) ⟨0,0,rfl,by omega⟩ (by simp;omega)
 exact ⟨z,by simp only [v_,Iv,hz,Option.bind_some]⟩
theorem dL.new:T7 F S (i:Int) (D.length:Int) ss=some (0,S,(i:Int),(D.length:Int),ss,dS D (Lv F D).length (fun _=>false),pS F D (Lv F D).length (fun _=>false)):=by
 have hF:=H.hF
 have h8:=H.l8
 have h1:=H.d1
 have h4:=H.d4
 have hL:=H.len
 have hl:=H.hd.hl
 have hr:=(lX (F:=F) (by omega) (l:=ss) (by omega) H.hd.qq).1
 rw [H.root] at hr
 have h35:LX F (D.length:Int)=some (((Lv F D).length:Nat):Int):=by
  have w1:ag ((D.length:Int) + 512)=((D.length + 512:Nat):Int):=by rw [cS (by omega) (by omega)];omega
  have w2:ag (((D.length + 512:Nat):Int) - 1)=((D.length + 511:Nat):Int):=by rw [cS (by omega) (by omega)];omega
  have w3:ag (Int.tdiv ((D.length + 511:Nat):Int) 512)=(((Lv F D).length:Nat):Int):=by
   rw [Int.tdiv_eq_ediv_of_nonneg (by omega),cS (by omega) (by omega)];omega
  simp only [LX,Ey,w1,w2,w3]
 have m1:=rz ([]:List UInt8) (n:=(Lv F D).length) (by omega)
 have m2:=rz ([]:List (List UInt8)) (n:=(Lv F D).length) (by omega)
 have d0:List.replicate (Lv F D).length ([]:List UInt8)=dS D (Lv F D).length (fun _=>false):=by simp [dS,List.map_const']
 have p0:List.replicate (Lv F D).length ([]:List (List UInt8))=pS F D (Lv F D).length (fun _=>false):=by simp [pS,List.map_const']
 simp only [T7,JG,(OZ (F:=F) (by omega) H.hd).1,Option.bind_some,Bool.not_true,cond_false,hr,bne_self_eq_false,h35,m1,m2,Wf,KM,tv (F:=F) (show ss.length≤1000000 by omega),d0,p0]
end
end Go.Proofs.YtiahcmabcbpcpaaGreatDoor
namespace Go.Proofs.YtiahcmabcbpcpaaGreatDoor
open Go.Tw
def pb (F:Nat) (S:List UInt8) (i:Nat) (D:List UInt8) (k:Nat):List UInt8:=enc (EP S i (512 * k) (chunk D k) (bT F F (Lv F D) k)).length ++ EP S i (512 * k) (chunk D k) (bT F F (Lv F D) k)
def SV (F:Nat) (S:List UInt8) (i:Nat) (D:List UInt8) (ss:List (List UInt8)) (hs:List Nat):List UInt8:=enc (EH S i D.length ss).length ++ (EH S i D.length ss ++ (enc hs.length ++ (hs.map (pb F S i D)).flatten))
abbrev Dl:=(List UInt8×Int×Unit)×Int×List UInt8×List (List UInt8)×Unit
def dI (F:Nat) (S:List UInt8) (i:Nat) (D:List UInt8) (k:Nat):Dl:=((S,(i:Int),()),((512 * k:Nat):Int),chunk D k,bT F F (Lv F D) k,())
theorem s7 {P:Nat} {q:Nat->Bool} {k:Nat}:k ∈ bV P q ↔ k < P∧q k=true:=by simp [bV]
theorem yJ (P:Nat) (q:Nat->Bool):(bV P q).length≤P:=by have:=List.length_filter_le q (List.range P);simpa [bV] using this
theorem WU (P:Nat) (q:Nat->Bool):(eN P q).length + (bV P q).length=P:=by
 unfold eN bV
 induction P with
 | zero=>rfl
 | succ P ih=>
  rw [ym,ym]
  cases h:q P<;>simp [h]<;>omega
theorem afi (P:Nat) (q:Nat->Bool):(bV P q).Pairwise (· < ·):=List.Pairwise.filter _ List.pairwise_lt_range
theorem aal {P:Nat} {q:Nat->Bool} {a b x y:Nat} (hx:(bV P q)[a]? = some x) (hy:(bV P q)[b]? = some y) (h:a < b):x < y:=by
 obtain ⟨ha,rfl⟩:=aM hx
 obtain ⟨hb,rfl⟩:=aM hy
 exact (List.pairwise_iff_getElem.1 (afi P q)) a b ha hb h
section
variable {F:Nat} {S:List UInt8} {i:Nat} {D:List UInt8} {ss:List (List UInt8)} (H:dL F S i D ss)
include H
theorem dL.afk {k:Nat} (hk:k < (Lv F D).length):(pb F S i D k).length≤1210∧1≤(pb F S i D k).length:=by
 have:=El (H.part hk)
 have:=eK (EP S i (512 * k) (chunk D k) (bT F F (Lv F D) k)).length
 have:=J8 (EP S i (512 * k) (chunk D k) (bT F F (Lv F D) k)).length
 simp only [pb,List.length_append];omega
theorem dL.IA:∀ {l:List Nat},(∀ k ∈ l,k < (Lv F D).length)->(l.map (pb F S i D)).flatten.length≤1210 * l.length∧l.length≤(l.map (pb F S i D)).flatten.length
 | [],_=>by simp
 | k :: l,h=>by
  have h1:=H.afk (h k (by simp))
  have h2:=dL.IA (l:=l) fun x hx=>h x (by simp [hx])
  simp only [List.map_cons,List.flatten_cons,List.length_append,List.length_cons];omega
theorem dL.aai (q:Nat->Bool):(SV F S i D ss (bV (Lv F D).length q)).length < 20000:=by
 have h8:=H.l8
 have h1:=FE H.hd
 have h2:=(H.IA (l:=bV (Lv F D).length q) fun k hk=>(s7.1 hk).1).1
 have h3:=eK (EH S i D.length ss).length
 have h4:=eK (bV (Lv F D).length q).length
 have h5:=yJ (Lv F D).length q
 simp only [SV,List.length_append];omega
theorem dL.save (q:Nat->Bool):Fk F S (i:Int) (D.length:Int) ss (dS D (Lv F D).length q) (pS F D (Lv F D).length q)=some (SV F S i D ss (bV (Lv F D).length q)):=by
 have hF:=H.hF
 have cO:50 < F:=by omega
 have h8:=H.l8
 have hh:=FE H.hd
 have h3:=eK (EH S i D.length ss).length
 have h4:=eK (bV (Lv F D).length q).length
 have h5:=yJ (Lv F D).length q
 have h6:=WU (Lv F D).length q
 have w:ag ((((dS D (Lv F D).length q).length:Nat):Int) - (((eo (eN (Lv F D).length q)).length:Nat):Int))=(((bV (Lv F D).length q).length:Nat):Int):=by
  rw [n8];simp only [eo,List.length_map]
  rw [cS (by omega) (by omega)];omega
 have hw:=alY (F:=F) cO (x:=EH S i D.length ss) (by omega)
 have hc:=X4 (F:=F) cO (n:=(bV (Lv F D).length q).length) (by omega) (l:=enc (EH S i D.length ss).length ++ EH S i D.length ss) (by simp;omega)
 obtain ⟨z,hz,hQ⟩:=cL (f:=fun s:Int×List UInt8=>AX F ((dS D (Lv F D).length q).length:Int) S (i:Int) (dS D (Lv F D).length q) (pS F D (Lv F D).length q) 0 s.1 s.2) (fun s=>∃ j:Nat,s=((j:Int),enc (EH S i D.length ss).length ++ EH S i D.length ss ++ enc (bV (Lv F D).length q).length ++ ((bV j q).map (pb F S i D)).flatten)∧j≤(Lv F D).length) (fun z=>z=SV F S i D ss (bV (Lv F D).length q)) (fun s=>(Lv F D).length - s.1.toNat) (by
  rintro s ⟨j,rfl,hj⟩
  by_cases hlt:j < (Lv F D).length
  ·have c1:decide ((j:Int) < (((dS D (Lv F D).length q).length:Nat):Int))=true:=decide_eq_true (by rw [n8];omega)
   have hx:=BO D q hlt
   have hp:=akF F D q hlt
   have b1:an (dS D (Lv F D).length q).length (j:Int)=some j:=iy (by rw [n8];exact hlt)
   have b2:an (pS F D (Lv F D).length q).length (j:Int)=some j:=iy (by rw [ZP];exact hlt)
   have w2:ag ((j:Int) * 512)=((512 * j:Nat):Int):=by rw [cS (by omega) (by omega)];omega
   cases hq:q j with
   | false=>
    rw [hq] at hx
    have he:bV (j + 1) q=bV j q:=by simp [bV,ym,hq]
    refine .inl ⟨(((j + 1:Nat):Int),_),?_,⟨j + 1,rfl,by omega⟩,by simp;omega⟩
    simp only [AX,yq,c1,cond_true,b1,hx,Option.bind_some,cond_false,show fA ([]:List UInt8)=true from rfl,dH (show j < 9223372036854775807 by omega),he]
   | true=>
    rw [hq] at hx hp
    have he:bV (j + 1) q=bV j q ++ [j]:=by simp [bV,ym,hq]
    have hfl:=(H.IA (l:=bV j q) fun k hk=>by have:=(s7.1 hk).1;omega).1
    have hjl:=yJ j q
    have hwb:=V9 (F:=F) cO (x:=EP S i (512 * j) (chunk D j) (bT F F (Lv F D) j)) (l:=enc (EH S i D.length ss).length ++ EH S i D.length ss ++ enc (bV (Lv F D).length q).length ++ ((bV j q).map (pb F S i D)).flatten) (by have:=(El (H.part hlt)).1;omega) (by simp only [List.length_append];omega)
    have P5:enc (EH S i D.length ss).length ++ EH S i D.length ss ++ enc (bV (Lv F D).length q).length ++ ((bV (j + 1) q).map (pb F S i D)).flatten=enc (EH S i D.length ss).length ++ EH S i D.length ss ++ enc (bV (Lv F D).length q).length ++ ((bV j q).map (pb F S i D)).flatten ++ (enc (EP S i (512 * j) (chunk D j) (bT F F (Lv F D) j)).length ++ EP S i (512 * j) (chunk D j) (bT F F (Lv F D) j)):=by
     simp only [he,List.map_append,List.flatten_append,List.map_cons,List.map_nil,List.flatten_cons,List.flatten_nil,List.append_nil,pb,List.append_assoc]
    refine .inl ⟨(((j + 1:Nat):Int),_),?_,⟨j + 1,rfl,by omega⟩,by simp;omega⟩
    rw [P5]
    simp only [AX,yq,c1,cond_true,b1,hx,Option.bind_some,zf (H.ch hlt).1,cond_false,b2,hp,w2,Rx (F:=F) (by omega) (H.part hlt),hwb,dH (show j < 9223372036854775807 by omega)]
  ·have c1:decide ((j:Int) < (((dS D (Lv F D).length q).length:Nat):Int))=false:=decide_eq_false (by rw [n8];omega)
   have:j=(Lv F D).length:=by omega
   subst this
   exact .inr ⟨SV F S i D ss (bV (Lv F D).length q),by simp only [AX,yq,c1,cond_false,SV,List.append_assoc],rfl⟩) F ((0:Int),enc (EH S i D.length ss).length ++ EH S i D.length ss ++ enc (bV (Lv F D).length q).length) ⟨0,by simp [bV],by omega⟩ (by simp;omega)
 subst hQ
 have f7:=H.aai q
 simp only [Fk,Im,anL (F:=F) (by omega) H.hd,xR,v7,Option.bind_some,hw,H.missing q,w,hc,hz,Nu F (show (SV F S i D ss (bV (Lv F D).length q)).length≤1048576 by omega)]
theorem dL.read {hs:List Nat} (hlt:∀ k ∈ hs,k < (Lv F D).length) (hl:hs.length≤8) {b:List UInt8} (hb:b.length < 1000000) {p0:Nat} (Oo:p0≤b.length) (last:Int) (hd:b.drop p0=(hs.map (pb F S i D)).flatten) :
  ∃ l',iter (fun s:Int×Int×Int×Int×List Dl=>zq F (hs.length:Int) b s.1 s.2.1 s.2.2.1 s.2.2.2.1 s.2.2.2.2) F ((0:Int),(p0:Int),last,(0:Int),([]:List Dl))=some (.inl ((b.length:Int),l',0,hs.map (dI F S i D))):=by
 have hF:=H.hF
 have cO:50 < F:=by omega
 have h8:=H.l8
 obtain ⟨z,hz,l',rfl⟩:=cL (f:=fun s:Int×Int×Int×Int×List Dl=>zq F (hs.length:Int) b s.1 s.2.1 s.2.2.1 s.2.2.2.1 s.2.2.2.2) (fun s=>∃ (j p:Nat) (l:Int),s=((j:Int),(p:Int),l,(0:Int),(hs.take j).map (dI F S i D))∧j≤hs.length∧p≤b.length∧b.drop p=((hs.drop j).map (pb F S i D)).flatten) (fun z=>∃ l':Int,z=.inl ((b.length:Int),l',0,hs.map (dI F S i D))) (fun s=>hs.length - s.1.toNat) (by
  rintro s ⟨j,p,l,rfl,hj,hp,C_⟩
  by_cases hjl:j < hs.length
  ·have c1:decide ((j:Int) < (hs.length:Int))=true:=decide_eq_true (by omega)
   have hx:hs[j]? = some hs[j]:=List.getElem?_eq_getElem hjl
   have hk:=hlt _ (List.getElem_mem hjl)
   rw [List.drop_eq_getElem_cons hjl,List.map_cons,List.flatten_cons] at C_
   simp only [pb,List.append_assoc] at C_
   obtain ⟨n1,n2⟩:=fI hp C_
   obtain ⟨n3,n4⟩:=fI n2 n1
   have w:ag ((b.length:Int) - (p:Int))=((b.length - p:Nat):Int):=by rw [cS (by omega) (by omega)];omega
   have hr:=Ry (F:=F) cO hb hp (m:=b.length - p) (by omega) (x:=EP S i (512 * hs[j]) (chunk D hs[j]) (bT F F (Lv F D) hs[j])) (by omega) C_ l
   have hg:aD ((hs.take j).map (dI F S i D)) [dI F S i D hs[j]]=some ((hs.take j).map (dI F S i D) ++ [dI F S i D hs[j]]):=d9 (by simp;omega)
   have he:(hs.take (j + 1)).map (dI F S i D)=(hs.take j).map (dI F S i D) ++ [dI F S i D hs[j]]:=by rw [sM hx,List.map_append];rfl
   refine .inl ⟨(((j + 1:Nat):Int),_,(p:Int),(0:Int),(hs.take (j + 1)).map (dI F S i D)),?_,⟨j + 1,_,(p:Int),rfl,by omega,n4,n3⟩,by simp;omega⟩
   rw [he]
   simp only [zq,DV,c1,cond_true,D4,D0,w,Option.bind_some,hr,YW (F:=F) (by omega) (H.part hk),ec,cond_false,dH (show j < 9223372036854775807 by omega)]
   simp only [dI] at hg ⊢
   simp only [hg,Option.bind_some]
  ·have c1:decide ((j:Int) < (hs.length:Int))=false:=decide_eq_false (by omega)
   have:j=hs.length:=by omega
   subst this
   have hp':p=b.length:=by
    have:=congrArg List.length C_
    simp at this;omega
   subst hp'
   exact .inr ⟨.inl ((b.length:Int),l,0,(hs.take hs.length).map (dI F S i D)),by simp only [zq,DV,c1,cond_false],l,by rw [List.take_length]⟩) F ((0:Int),(p0:Int),last,(0:Int),([]:List Dl)) ⟨0,p0,last,rfl,by omega,Oo,by simpa using hd⟩ (by simp;omega)
 exact ⟨l',hz⟩
theorem dL.takes (q:Nat->Bool) :
  iter (fun s:Int×List (List UInt8)×List (List (List UInt8))=>CC F ((((bV (Lv F D).length q).map (dI F S i D)).length:Nat):Int) ((bV (Lv F D).length q).map (dI F S i D)) S (i:Int) (D.length:Int) ss s.1 s.2.1 s.2.2) F ((0:Int),dS D (Lv F D).length (fun _=>false),pS F D (Lv F D).length (fun _=>false))=some (.inl (dS D (Lv F D).length q,pS F D (Lv F D).length q)):=by
 have hF:=H.hF
 have h8:=H.l8
 have hl:=yJ (Lv F D).length q
 have VQ:∀ k ∈ bV (Lv F D).length q,k < (Lv F D).length:=fun k hk=>(s7.1 hk).1
 generalize yO:bV (Lv F D).length q=hs at *
 obtain ⟨z,hz,hQ⟩:=cL (f:=fun s:Int×List (List UInt8)×List (List (List UInt8))=>CC F (((hs.map (dI F S i D)).length:Nat):Int) (hs.map (dI F S i D)) S (i:Int) (D.length:Int) ss s.1 s.2.1 s.2.2) (fun s=>∃ j:Nat,s=((j:Int),dS D (Lv F D).length (fun k=>decide (k ∈ hs.take j)),pS F D (Lv F D).length (fun k=>decide (k ∈ hs.take j)))∧j≤hs.length) (fun z=>z=.inl (dS D (Lv F D).length (fun k=>decide (k ∈ hs)),pS F D (Lv F D).length (fun k=>decide (k ∈ hs)))) (fun s=>hs.length - s.1.toNat) (by
  rintro s ⟨j,rfl,hj⟩
  by_cases hjl:j < hs.length
  ·have c1:decide ((j:Int) < (((hs.map (dI F S i D)).length:Nat):Int))=true:=decide_eq_true (by simp;omega)
   have hx:hs[j]? = some hs[j]:=List.getElem?_eq_getElem hjl
   have hk:hs[j] < (Lv F D).length:=VQ _ (List.getElem_mem hjl)
   have b1:an (hs.map (dI F S i D)).length (j:Int)=some j:=iy (by simpa using hjl)
   have b2:(hs.map (dI F S i D))[j]? = some (dI F S i D hs[j]):=by simp [hjl]
   have hq:decide (hs[j] ∈ hs.take j)=false:=decide_eq_false fun hm=>by
    obtain ⟨a,ha,e⟩:=List.getElem_of_mem hm
    have rR:a < j:=by simp at ha;omega
    have h1:(bV (Lv F D).length q)[a]? = some hs[j]:=by rw [yO,← e,List.getElem_take,List.getElem?_eq_getElem]
    have h2:(bV (Lv F D).length q)[j]? = some hs[j]:=by rw [yO];exact hx
    exact absurd (aal h1 h2 rR) (by omega)
   have ht:=H.take hk (q:=fun k=>decide (k ∈ hs.take j)) hq
   obtain ⟨s1,s2⟩:=abx F D (P:=(Lv F D).length) (q:=jl (fun k=>decide (k ∈ hs.take j)) hs[j]) (q':=fun k=>decide (k ∈ hs.take (j + 1))) (fun k _=>by
    rw [sM hx]
    by_cases e:k=hs[j]
    ·subst e;rw [Dr];exact (decide_eq_true (List.mem_append_right _ (List.mem_singleton.2 rfl))).symm
    ·rw [z0 _ e];exact decide_eq_decide.2 ⟨List.mem_append_left _,fun h=>(List.mem_append.1 h).resolve_right fun h=>e (List.mem_singleton.1 h)⟩)
   rw [s1,s2] at ht
   refine .inl ⟨(((j + 1:Nat):Int),_),?_,⟨j + 1,rfl,by omega⟩,by simp;omega⟩
   simp only [CC,zT,c1,cond_true,b1,b2,Option.bind_some]
   simp only [dI,ht,Option.bind_some,ec,cond_false,dH (show j < 9223372036854775807 by omega)]
  ·have c1:decide ((j:Int) < (((hs.map (dI F S i D)).length:Nat):Int))=false:=decide_eq_false (by simp;omega)
   have:j=hs.length:=by omega
   subst this
   exact .inr ⟨.inl (dS D (Lv F D).length (fun k=>decide (k ∈ hs)),pS F D (Lv F D).length (fun k=>decide (k ∈ hs))),by simp only [CC,zT,c1,cond_false,List.take_length],rfl⟩) F ((0:Int),dS D (Lv F D).length (fun _=>false),pS F D (Lv F D).length (fun _=>false)) ⟨0,by simp,by omega⟩ (by simp;omega)
 subst hQ
 rw [hz]
 obtain ⟨s1,s2⟩:=abx F D (P:=(Lv F D).length) (q:=fun k=>decide (k ∈ hs)) (q':=q) (fun k hk=>by
  rw [← yO]
  cases h:q k with
  | true=>exact decide_eq_true (s7.2 ⟨hk,h⟩)
  | false=>exact decide_eq_false fun hm=>by have:=(s7.1 hm).2;rw [h] at this;cases this)
 rw [s1,s2]
theorem dL.order (q:Nat->Bool):iter (fun s:Int=>Bq F ((bV (Lv F D).length q).map (dI F S i D)) s) F (1:Int)=some (.inl ()):=by
 have hF:=H.hF
 have h8:=H.l8
 have hl:=yJ (Lv F D).length q
 have VQ:∀ k ∈ bV (Lv F D).length q,k < (Lv F D).length:=fun k hk=>(s7.1 hk).1
 generalize yO:bV (Lv F D).length q=hs at *
 obtain ⟨z,hz,hQ⟩:=cL (f:=fun s:Int=>Bq F (hs.map (dI F S i D)) s) (fun s=>∃ j:Nat,s=((j + 1:Nat):Int)) (fun z=>z=.inl ()) (fun s=>hs.length + 1 - s.toNat) (by
  rintro s ⟨j,rfl⟩
  by_cases hjl:j + 1 < hs.length
  ·have c1:decide (((j + 1:Nat):Int) < (((hs.map (dI F S i D)).length:Nat):Int))=true:=decide_eq_true (by simp;omega)
   have w1:ag (((j + 1:Nat):Int) - 1)=(j:Int):=by rw [cS (by omega) (by omega)];omega
   have hx:hs[j]? = some hs[j]:=List.getElem?_eq_getElem (by omega)
   have hy:hs[j + 1]? = some hs[j + 1]:=List.getElem?_eq_getElem hjl
   have b1:an (hs.map (dI F S i D)).length (j:Int)=some j:=iy (by simp;omega)
   have b2:an (hs.map (dI F S i D)).length ((j + 1:Nat):Int)=some (j + 1):=iy (by simp;omega)
   have g1:(hs.map (dI F S i D))[j]? = some (dI F S i D hs[j]):=by simp [show j < hs.length by omega]
   have g2:(hs.map (dI F S i D))[j + 1]? = some (dI F S i D hs[j + 1]):=by simp [hjl]
   have hlt:=aal (P:=(Lv F D).length) (q:=q) (a:=j) (b:=j + 1) (x:=hs[j]) (y:=hs[j + 1]) (by rw [yO];exact hx) (by rw [yO];exact hy) (by omega)
   have c2:decide ((dI F S i D hs[j + 1]).2.1≤(dI F S i D hs[j]).2.1)=false:=decide_eq_false (by
    show ¬ (((512 * hs[j + 1]:Nat):Int)≤((512 * hs[j]:Nat):Int))
    omega)
   refine .inl ⟨((j + 1 + 1:Nat):Int),?_,⟨j + 1,rfl⟩,by omega⟩
   simp only [Bq,C6,c1,cond_true,w1,b1,b2,g1,g2,Option.bind_some,c2,cond_false,dH (show j + 1 < 9223372036854775807 by omega)]
  ·have c1:decide (((j + 1:Nat):Int) < (((hs.map (dI F S i D)).length:Nat):Int))=false:=decide_eq_false (by simp;omega)
   exact .inr ⟨.inl (),by simp only [Bq,C6,c1,cond_false],rfl⟩) F (1:Int) ⟨0,rfl⟩ (by
    show hs.length + 1 - 1 < F
    omega)
 subst hQ
 exact hz
theorem dL.resume (q:Nat->Bool):Jw F (SV F S i D ss (bV (Lv F D).length q))=some (0,S,(i:Int),(D.length:Int),ss,dS D (Lv F D).length q,pS F D (Lv F D).length q):=by
 have hF:=H.hF
 have cO:50 < F:=by omega
 have h8:=H.l8
 have f7:=H.aai q
 have hlt:∀ k ∈ bV (Lv F D).length q,k < (Lv F D).length:=fun k hk=>(s7.1 hk).1
 have hl:=yJ (Lv F D).length q
 have hfl:=(H.IA hlt).2
 have xT:=H.takes q
 have b9:=H.order q
 generalize bV (Lv F D).length q=hs at *
 generalize hb:SV F S i D ss hs=b at *
 have fe:b.length < 1000000:=by omega
 have d0:b.drop 0=enc (EH S i D.length ss).length ++ (EH S i D.length ss ++ (enc hs.length ++ (hs.map (pb F S i D)).flatten)):=by rw [← hb];rfl
 obtain ⟨d1,l1⟩:=fI (Nat.zero_le _) d0
 obtain ⟨d2,l2⟩:=fI l1 d1
 obtain ⟨d3,l3⟩:=fI l2 d2
 have w0:ag ((b.length:Int) - 0)=(b.length:Int):=by rw [cS (by omega) (by omega)];omega
 have r1:=Ry (F:=F) cO fe (Nat.zero_le _) (m:=b.length) (by omega) (by omega) d0 0
 have r2:=adl (F:=F) (by omega) H.hd
 generalize hp:0 + (enc (EH S i D.length ss).length).length + (EH S i D.length ss).length=p at *
 have w1:ag ((b.length:Int) - (p:Int))=((b.length - p:Nat):Int):=by rw [cS (by omega) (by omega)];omega
 have hle:hs.length≤b.length - p:=by
  have:=congrArg List.length d3
  simp only [List.length_drop] at this;omega
 have r3:=Ym (F:=F) cO fe l2 (m:=b.length - p) (by omega) hle d2 ((0:Nat):Int)
 obtain ⟨l',r4⟩:=H.read hlt (by omega) fe l3 (p:Int) d3
 have r5:=Oi F (b:=b) (pos:=b.length) (Nat.le_refl _)
 rw [show ((0:Nat):Int)=0 from rfl] at r1 r3
 simp only [Jw,EW,RS F fe,Option.bind_some,D4,D0,w0,r1,r2,ec,cond_false,w1,r3,r4,bz,r5,H.new,xT,b9]
theorem dL.piece {q:Nat->Bool} (hq:∀ k,k < (Lv F D).length->q k=true):TA F S (i:Int) (D.length:Int) ss (dS D (Lv F D).length q) (pS F D (Lv F D).length q)=some (S,(i:Int),D,ss,0):=by
 have hF:=H.hF
 have h8:=H.l8
 have h4:=H.d4
 have hL:=H.len
 have hl:=H.hd.hl
 have aQ:∀ {j:Nat},j < (Lv F D).length->(dS D (Lv F D).length q)[j]? = some (chunk D j):=fun {j} h=>by rw [BO D q h,hq j h];rfl
 have hlen:(((dS D (Lv F D).length q).length:Nat):Int)=(((Lv F D).length:Nat):Int):=by rw [n8]
 obtain ⟨z1,gX,hQ1⟩:=cL (f:=fun s:Int=>E1 F (dS D (Lv F D).length q) (((Lv F D).length:Nat):Int) s) (fun s=>∃ j:Nat,s=(j:Int)∧j≤(Lv F D).length) (fun z=>z=.inl ()) (fun s=>(Lv F D).length - s.toNat) (by
  rintro s ⟨j,rfl,hj⟩
  by_cases hlt:j < (Lv F D).length
  ·have c1:decide ((j:Int) < (((Lv F D).length:Nat):Int))=true:=decide_eq_true (by omega)
   exact .inl ⟨((j + 1:Nat):Int),by simp only [E1,A9,c1,cond_true,cU (aQ hlt),Option.bind_some,zf (H.ch hlt).1,cond_false,dH (show j < 9223372036854775807 by omega)],⟨j + 1,rfl,by omega⟩,by omega⟩
  ·have c1:decide ((j:Int) < (((Lv F D).length:Nat):Int))=false:=decide_eq_false (by omega)
   exact .inr ⟨.inl (),by simp only [E1,A9,c1,cond_false],rfl⟩) F (0:Int) ⟨0,rfl,by omega⟩ (by simp;omega)
 obtain ⟨z2,rG,hQ2⟩:=cL (f:=fun s:Int×Int=>IP F (dS D (Lv F D).length q) (((Lv F D).length:Nat):Int) s.1 s.2) (fun s=>∃ j:Nat,s=(((min (512 * j) D.length:Nat):Int),(j:Int))∧j≤(Lv F D).length) (fun z=>z=(D.length:Int)) (fun s=>(Lv F D).length - s.2.toNat) (by
  rintro s ⟨j,rfl,hj⟩
  by_cases hlt:j < (Lv F D).length
  ·have c1:decide ((j:Int) < (((Lv F D).length:Nat):Int))=true:=decide_eq_true (by omega)
   have hc:=(H.ch hlt).2
   have w:ag (((min (512 * j) D.length:Nat):Int) + (((chunk D j).length:Nat):Int))=((min (512 * (j + 1)) D.length:Nat):Int):=by rw [cS (by omega) (by omega)];omega
   have c2:decide (((min (512 * (j + 1)) D.length:Nat):Int) < 0)=false:=decide_eq_false (by omega)
   exact .inl ⟨(((min (512 * (j + 1)) D.length:Nat):Int),((j + 1:Nat):Int)),by simp only [IP,AT,c1,cond_true,cU (aQ hlt),Option.bind_some,zf (H.ch hlt).1,cond_false,w,c2,dH (show j < 9223372036854775807 by omega)],⟨j + 1,rfl,by omega⟩,by simp;omega⟩
  ·have c1:decide ((j:Int) < (((Lv F D).length:Nat):Int))=false:=decide_eq_false (by omega)
   exact .inr ⟨((min (512 * j) D.length:Nat):Int),by simp only [IP,AT,c1,cond_false],by omega⟩) F ((0:Int),(0:Int)) ⟨0,by simp,by omega⟩ (by simp;omega)
 obtain ⟨z3,Vy,hQ3⟩:=cL (f:=fun s:Int×List UInt8=>G5 F (dS D (Lv F D).length q) (((Lv F D).length:Nat):Int) s.1 s.2) (fun s=>∃ j:Nat,s=((j:Int),D.take (512 * j))∧j≤(Lv F D).length) (fun z=>z=D) (fun s=>(Lv F D).length - s.1.toNat) (by
  rintro s ⟨j,rfl,hj⟩
  by_cases hlt:j < (Lv F D).length
  ·have c1:decide ((j:Int) < (((Lv F D).length:Nat):Int))=true:=decide_eq_true (by omega)
   have hc:=(H.ch hlt).2
   have he:D.take (512 * j) ++ chunk D j=D.take (512 * (j + 1)):=by rw [show 512 * (j + 1)=512 * j + 512 by omega,List.take_add];rfl
   have hg:aD (D.take (512 * j)) (chunk D j)=some (D.take (512 * (j + 1))):=by rw [← he];exact d9 (by simp;omega)
   exact .inl ⟨(((j + 1:Nat):Int),D.take (512 * (j + 1))),by simp only [G5,zS,c1,cond_true,cU (aQ hlt),Option.bind_some,zf (H.ch hlt).1,cond_false,hg,dH (show j < 9223372036854775807 by omega)],⟨j + 1,rfl,by omega⟩,by simp;omega⟩
  ·have c1:decide ((j:Int) < (((Lv F D).length:Nat):Int))=false:=decide_eq_false (by omega)
   exact .inr ⟨D.take (512 * j),by simp only [G5,zS,c1,cond_false],List.take_of_length_le (by omega)⟩) F ((0:Int),([]:List UInt8)) ⟨0,by simp,by omega⟩ (by simp;omega)
 rw [hQ1] at gX
 rw [hQ2] at rG
 rw [hQ3] at Vy
 have hgr:Jy F (D.length:Int)=some []:=by
  have k1:decide ((0:Int)≤(D.length:Int))=true:=decide_eq_true (by omega)
  have k2:decide ((D.length:Int)≤4000)=true:=decide_eq_true (by omega)
  simp only [Jy,DX,k1,k2,Bool.and_self,cond_true]
 simp only [TA,LL,V1,Kb,hlen,gX,Option.bind_some,bz,cond_false,Vr,F7,tv (F:=F) (show ss.length≤1000000 by omega),VW,Ge,rG,hgr,Vy]
end
end Go.Proofs.YtiahcmabcbpcpaaGreatDoor
namespace Go.Proofs.YtiahcmabcbpcpaaGreatDoor
open Go.Tw
def xk (k:List UInt8) (x:UInt8):List UInt8:=(k ++ List.replicate (64 - k.length) 0).map (fun y=>y ^^^ x)
theorem t7 {k:List UInt8} (h:k.length≤64) (x:UInt8):(xk k x).length=64:=by simp [xk];omega
theorem WW {F:Nat} (hF:400 < F) (x:UInt8) (v:Vector UInt8 64):∃ r,nB F x v=some r∧r.toList=v.toList.map (fun y=>y ^^^ x):=by
 obtain ⟨r,b1,b2⟩:=cL (f:=fun s:Int×Vector UInt8 64=>Oz F x v s.1 s.2)
  (fun s=>∃ i:Nat,s.1=i∧i≤64∧∀ j (hj:j < 64),j < i->s.2[j]=v[j] ^^^ x) (fun r=>r.toList=v.toList.map (fun y=>y ^^^ x)) (fun s=>64 - s.1.toNat) (by
   rintro ⟨a,u⟩ ⟨i,hi,L5,hu⟩
   simp only at hi hu
   subst hi
   by_cases h:i < 64
   ·have h1:(((i:Nat):Int) < 64):=by omega
    have e3:ag (((i:Nat):Int) + 1)=((i + 1:Nat):Int):=by rw [aY (by omega) (by omega)];omega
    have n:an 64 ((i:Nat):Int)=some i:=dJ h
    refine .inl ⟨(((i + 1:Nat):Int),u.setIfInBounds i (v[i] ^^^ x)),?_,⟨i + 1,rfl,by omega,fun j hj hji=>?_⟩,by simp only [Int.toNat_natCast];omega⟩
    ·simp only [Oz,I5,h1,decide_true,cond_true,wS (v:=v) h,n,Option.bind_some,e3]
    ·simp only [Vector.getElem_setIfInBounds]
     by_cases e:i=j
     ·subst e;simp only [if_true]
     ·rw [if_neg e];exact hu j hj (by omega)
   ·obtain rfl:i=64:=by omega
    refine .inr ⟨u,rfl,?_⟩
    apply List.ext_getElem (by simp)
    intro j h1 h2
    simp only [Vector.getElem_toList,List.getElem_map]
    have hj:j < 64:=by simpa using h1
    exact hu j hj hj) F ((0:Int),Vector.replicate 64 (0:UInt8)) ⟨0,rfl,by omega,fun j hj h0=>absurd h0 (by omega)⟩ (by simp only [Int.toNat_zero];omega)
 exact ⟨r,by simp only [nB,Ki,b1,Option.bind_some],b2⟩
theorem filled {k:List UInt8} (h:k.length≤64):(dV (Vector.replicate 64 (0:UInt8)) 0 k k.length).toList=k ++ List.replicate (64 - k.length) 0:=by
 rw [Bm (by omega) (Nat.le_refl _),Vector.toList_replicate]
 simp only [bC,List.take_zero,List.nil_append,List.take_length,Nat.zero_add,List.drop_replicate]
theorem aaX:xw=nZ:=rfl
theorem anz {F:Nat} (hF:2000 < F) {k:List UInt8} (hk:k.length≤64):∃ o i h b n,nB F 92 (dV (Vector.replicate 64 (0:UInt8)) 0 k (Nat.min k.length (64 - 0)))=some o∧nB F 54 (dV (Vector.replicate 64 (0:UInt8)) 0 k (Nat.min k.length (64 - 0)))=some i ∧
  xw F ((i.toList.drop 0).take (64 - 0)) uE (Vector.replicate 64 (0:UInt8)) 0=some (h,b,n)∧Inv F (xk k 54) h b n∧o.toList=xk k 92:=by
 have hmin:Nat.min k.length (64 - 0)=k.length:=Nat.min_eq_left (by omega)
 rw [hmin]
 obtain ⟨o,o1,o2⟩:=WW (F:=F) (by omega) 92 (dV (Vector.replicate 64 (0:UInt8)) 0 k k.length)
 obtain ⟨i,i1,i2⟩:=WW (F:=F) (by omega) 54 (dV (Vector.replicate 64 (0:UInt8)) 0 k k.length)
 rw [filled hk] at o2 i2
 have xl:=t7 hk 54
 obtain ⟨h,b,n,t1,t2⟩:=tU (F:=F) (m:=[]) (x:=xk k 54) (by simp only [List.length_nil];omega) (by simp only [List.length_nil];omega) (IC F)
 rw [List.nil_append] at t2
 refine ⟨o,i,h,b,n,o1,i1,?_,t2,o2⟩
 rw [i2,aaX]
 have e:(((k ++ List.replicate (64 - k.length) 0).map (fun y=>y ^^^ (54:UInt8))).drop 0).take (64 - 0)=xk k 54:=by
  rw [List.drop_zero,List.take_of_length_le (by simp;omega)];rfl
 rw [e,t1]
theorem WL:dc tw (0:Int)=some 54:=rfl
theorem Y_:dc tw (1:Int)=some 92:=rfl
theorem Vg {F:Nat} {k d:List UInt8} (hF:2000 + k.length + d.length < F) (hk:k.length < 10000000) (hd:d.length < 10000000):∃ t,Ad F k d=some t∧t.length=32:=by
 have g0:bW 64 (0:Int) ((64:Nat):Int)=some (0,64):=jR (a:=0) (by omega) (by omega)
 have key:∀ k':List UInt8,k'.length≤64->∃ h b n o t inner,(nB F 92 (dV (Vector.replicate 64 (0:UInt8)) 0 k' (Nat.min k'.length (64 - 0)))=some o∧∃ i,nB F 54 (dV (Vector.replicate 64 (0:UInt8)) 0 k' (Nat.min k'.length (64 - 0)))=some i ∧
   xw F ((i.toList.drop 0).take (64 - 0)) uE (Vector.replicate 64 (0:UInt8)) 0=some (h,b,n))∧(∃ z,SD F d h b n=some z∧Po F z.1 z.2.1 z.2.2 o=some t) ∧
   sS F (xk k' 54 ++ d)=some inner∧inner.length=32∧sS F (xk k' 92 ++ inner)=some t∧t.length=32:=by
  intro k' hk'
  obtain ⟨o,i,h,b,n,o1,i1,s1,s2,s3⟩:=anz (F:=F) (by omega) hk'
  have xl:=t7 hk' 54
  have Vw:=t7 hk' 92
  obtain ⟨h2,b2,n2,u1,u2⟩:=tU (F:=F) (x:=d) (by omega) (by omega) s2
  obtain ⟨inner,v1,v2,v3⟩:=GG (F:=F) (by simp only [List.length_append];omega) (by simp only [List.length_append];omega) u2
  obtain ⟨t,w1,w2,w3⟩:=It (F:=F) (ls:=[xk k' 92,inner]) (by simp only [List.flatten_cons,List.flatten_nil,List.length_append,List.length_cons,List.length_nil];omega) (by simp only [List.flatten_cons,List.flatten_nil,List.length_append,List.length_nil];omega) (by simp)
  have hfl:[xk k' 92,inner].flatten=xk k' 92 ++ inner:=by simp
  rw [hfl] at w2
  refine ⟨h,b,n,o,t,inner,⟨o1,i,i1,s1⟩,⟨(h2,b2,n2),?_,?_⟩,v2,v3,w2,w3⟩
  ·simp only [SD,Lg,aaX,u1,Option.bind_some]
  ·have e:(o.toList.drop 0).take (64 - 0)=xk k' 92:=by rw [s3,List.drop_zero,List.take_of_length_le (by omega)]
   simp only [Po,G3,g0,Option.bind_some,v1,e,w1]
 by_cases atP:64 < k.length
 ·have h1:((64:Int) < (k.length:Int)):=by omega
  obtain ⟨k',a1,a2,a3⟩:=It (F:=F) (ls:=[k]) (by simp;omega) (by simp;omega) (by simp)
  have hfl:[k].flatten=k:=by simp
  rw [hfl] at a2
  obtain ⟨h,b,n,o,t,inner,⟨o1,i,i1,s1⟩,⟨z,z1,z2⟩,c1,c2,c3,c4⟩:=key k' (by omega)
  have xl:=t7 (k:=k') (by omega) 54
  have Vw:=t7 (k:=k') (by omega) 92
  have QF:zQ F k=some (h,b,n,o):=by
   simp only [zQ,Ee,h1,decide_true,cond_true,a1,Option.bind_some,g0,WL,Y_,nQ,sg,o1,i1,s1]
  exact ⟨t,by simp only [Ad,B1,QF,Option.bind_some,z1,z2],c4⟩
 ·have h1:¬ ((64:Int) < (k.length:Int)):=by omega
  obtain ⟨h,b,n,o,t,inner,⟨o1,i,i1,s1⟩,⟨z,z1,z2⟩,c1,c2,c3,c4⟩:=key k (by omega)
  have xl:=t7 (k:=k) (by omega) 54
  have Vw:=t7 (k:=k) (by omega) 92
  have QF:zQ F k=some (h,b,n,o):=by
   simp only [zQ,Ee,h1,decide_false,cond_false,Option.bind_some,g0,WL,Y_,nQ,sg,o1,i1,s1]
  exact ⟨t,by simp only [Ad,B1,QF,Option.bind_some,z1,z2],c4⟩
def rl (x:UInt32) (k:Nat):UInt32:=ey x k ||| cn x (32 - k)
theorem aeq (F:Nat) (x:UInt32):bc F x 16=some (rl x 16):=by
 have e1:((UInt64.ofInt 16) &&& (UInt64.ofNat 31)).toNat=16:=by decide +kernel
 have e2:((UInt64.ofNat 32) - ((UInt64.ofInt 16) &&& (UInt64.ofNat 31))).toNat=16:=by decide +kernel
 simp only [bc,iK,e1,e2,rl]
theorem alK (F:Nat) (x:UInt32):bc F x 12=some (rl x 12):=by
 have e1:((UInt64.ofInt 12) &&& (UInt64.ofNat 31)).toNat=12:=by decide +kernel
 have e2:((UInt64.ofNat 32) - ((UInt64.ofInt 12) &&& (UInt64.ofNat 31))).toNat=20:=by decide +kernel
 simp only [bc,iK,e1,e2,rl]
theorem alx (F:Nat) (x:UInt32):bc F x 8=some (rl x 8):=by
 have e1:((UInt64.ofInt 8) &&& (UInt64.ofNat 31)).toNat=8:=by decide +kernel
 have e2:((UInt64.ofNat 32) - ((UInt64.ofInt 8) &&& (UInt64.ofNat 31))).toNat=24:=by decide +kernel
 simp only [bc,iK,e1,e2,rl]
theorem agz (F:Nat) (x:UInt32):bc F x 7=some (rl x 7):=by
 have e1:((UInt64.ofInt 7) &&& (UInt64.ofNat 31)).toNat=7:=by decide +kernel
 have e2:((UInt64.ofNat 32) - ((UInt64.ofInt 7) &&& (UInt64.ofNat 31))).toNat=25:=by decide +kernel
 simp only [bc,iK,e1,e2,rl]
theorem quarter (F:Nat) (a b c d:UInt32):∃ q,RC F a b c d=some q:=by
 simp only [RC,Ko,aeq,alK,alx,agz,Option.bind_some]
 exact ⟨_,rfl⟩
theorem aiH {α:Type} {n:Nat} (v:Vector α n) (i:Int):dc v i=(an n i).bind fun j=>aA v j:=by
 unfold dc an
 by_cases h0:0≤i
 ·rw [if_pos h0]
  by_cases h1:i < n
  ·rw [if_pos ⟨h0,h1⟩,Option.bind_some,FP]
  ·rw [if_neg (fun h=>h1 h.2),Option.bind_none]
   exact getElem?_neg v i.toNat (by omega)
 ·rw [if_neg h0,if_neg (fun h=>h0 h.1),Option.bind_none]
def rows:Vector (Vector Int 4) 8:=#v[(#v[(0:Int),(4:Int),(8:Int),(12:Int)]:Vector Int 4),(#v[(1:Int),(5:Int),(9:Int),(13:Int)]:Vector Int 4),(#v[(2:Int),(6:Int),(10:Int),(14:Int)]:Vector Int 4),(#v[(3:Int),(7:Int),(11:Int),(15:Int)]:Vector Int 4),(#v[(0:Int),(5:Int),(10:Int),(15:Int)]:Vector Int 4),(#v[(1:Int),(6:Int),(11:Int),(12:Int)]:Vector Int 4),(#v[(2:Int),(7:Int),(8:Int),(13:Int)]:Vector Int 4),(#v[(3:Int),(4:Int),(9:Int),(14:Int)]:Vector Int 4)]
theorem acS:∀ i:Nat,i < 8->∃ a b c d:Nat,(a < 16∧b < 16∧c < 16∧d < 16)∧dc rows ((i:Nat):Int)=some #v[((a:Nat):Int),((b:Nat):Int),((c:Nat):Int),((d:Nat):Int)]
 | 0,_=>⟨0,4,8,12,by decide,rfl⟩
 | 1,_=>⟨1,5,9,13,by decide,rfl⟩
 | 2,_=>⟨2,6,10,14,by decide,rfl⟩
 | 3,_=>⟨3,7,11,15,by decide,rfl⟩
 | 4,_=>⟨0,5,10,15,by decide,rfl⟩
 | 5,_=>⟨1,6,11,12,by decide,rfl⟩
 | 6,_=>⟨2,7,8,13,by decide,rfl⟩
 | 7,_=>⟨3,4,9,14,by decide,rfl⟩
 | n + 8,h=>absurd h (by omega)
theorem l11 (F:Nat) {i:Nat} (hi:i < 8) (v:Vector UInt32 16):∃ v',PX F rows ((i:Nat):Int) v=some (((i + 1:Nat):Int),v'):=by
 obtain ⟨a,b,c,d,⟨ha,hb,hc,hd⟩,hr⟩:=acS i hi
 have e3:ag (((i:Nat):Int) + 1)=((i + 1:Nat):Int):=by rw [aY (by omega) (by omega)];omega
 have y0:aA #v[((a:Nat):Int),((b:Nat):Int),((c:Nat):Int),((d:Nat):Int)] 0=some ((a:Nat):Int):=rfl
 have y1:aA #v[((a:Nat):Int),((b:Nat):Int),((c:Nat):Int),((d:Nat):Int)] 1=some ((b:Nat):Int):=rfl
 have y2:aA #v[((a:Nat):Int),((b:Nat):Int),((c:Nat):Int),((d:Nat):Int)] 2=some ((c:Nat):Int):=rfl
 have y3:aA #v[((a:Nat):Int),((b:Nat):Int),((c:Nat):Int),((d:Nat):Int)] 3=some ((d:Nat):Int):=rfl
 obtain ⟨q,hq⟩:=quarter F v[a] v[b] v[c] v[d]
 simp only [PX,FD,hr,Option.bind_some,y0,y1,y2,y3,dJ ha,dJ hb,dJ hc,dJ hd,de (v:=v) ha,de (v:=v) hb,de (v:=v) hc,de (v:=v) hd,hq,e3]
 exact ⟨_,rfl⟩
theorem l10 {F:Nat} (hF:100 < F) (v:Vector UInt32 16):∃ v',iter (fun s:Int×Vector UInt32 16=>Ky F rows s.1 s.2) F ((0:Int),v)=some v':=by
 obtain ⟨r,h,_⟩:=cL (f:=fun s:Int×Vector UInt32 16=>Ky F rows s.1 s.2) (fun s=>∃ i:Nat,s.1=i∧i≤8) (fun _=>True) (fun s=>8 - s.1.toNat) (by
   rintro ⟨a,u⟩ ⟨i,hi,h8⟩
   simp only at hi
   subst hi
   by_cases h:i < 8
   ·have h1:(((i:Nat):Int) < 8):=by omega
    obtain ⟨v',hv⟩:=l11 F h u
    refine .inl ⟨(((i + 1:Nat):Int),v'),?_,⟨i + 1,rfl,by omega⟩,by simp only [Int.toNat_natCast];omega⟩
    simp only [Ky,HA,h1,decide_true,cond_true,hv,Option.bind_some]
   ·obtain rfl:i=8:=by omega
    exact .inr ⟨u,rfl,trivial⟩) F ((0:Int),v) ⟨0,rfl,by omega⟩ (by simp only [Int.toNat_zero];omega)
 exact ⟨r,h⟩
theorem l9 {F:Nat} (hF:100 < F) (v:Vector UInt32 16):∃ v',iter (fun s:Int×Vector UInt32 16=>FV F rows s.1 s.2) F ((0:Int),v)=some v':=by
 obtain ⟨r,h,_⟩:=cL (f:=fun s:Int×Vector UInt32 16=>FV F rows s.1 s.2) (fun s=>∃ i:Nat,s.1=i∧i≤10) (fun _=>True) (fun s=>10 - s.1.toNat) (by
   rintro ⟨a,u⟩ ⟨i,hi,h8⟩
   simp only at hi
   subst hi
   by_cases h:i < 10
   ·have h1:(((i:Nat):Int) < 10):=by omega
    have e3:ag (((i:Nat):Int) + 1)=((i + 1:Nat):Int):=by rw [aY (by omega) (by omega)];omega
    obtain ⟨v',hv⟩:=l10 hF u
    refine .inl ⟨(((i + 1:Nat):Int),v'),?_,⟨i + 1,rfl,by omega⟩,by simp only [Int.toNat_natCast];omega⟩
    simp only [FV,I6,h1,decide_true,cond_true,hv,Option.bind_some,e3]
   ·obtain rfl:i=10:=by omega
    exact .inr ⟨u,rfl,trivial⟩) F ((0:Int),v) ⟨0,rfl,by omega⟩ (by simp only [Int.toNat_zero];omega)
 exact ⟨r,h⟩
theorem Ud (F:Nat) {p:List UInt8} {i:Nat} (h:i + 3 < p.length) (hi:i < 400):∃ w,I3 F p ((i:Nat):Int)=some w:=by
 have f1:ag (((i:Nat):Int) + 1)=((i + 1:Nat):Int):=by rw [aY (by omega) (by omega)];omega
 have f2:ag (((i:Nat):Int) + 2)=((i + 2:Nat):Int):=by rw [aY (by omega) (by omega)];omega
 have f3:ag (((i:Nat):Int) + 3)=((i + 3:Nat):Int):=by rw [aY (by omega) (by omega)];omega
 have x0:ix p ((i:Nat):Int)=some p[i]:=l_ (by omega)
 have x1:ix p ((i + 1:Nat):Int)=some p[i + 1]:=l_ (by omega)
 have x2:ix p ((i + 2:Nat):Int)=some p[i + 2]:=l_ (by omega)
 have x3:ix p ((i + 3:Nat):Int)=some p[i + 3]:=l_ (by omega)
 simp only [I3,KS,f1,f2,f3,x0,x1,x2,x3,Option.bind_some]
 exact ⟨_,rfl⟩
theorem l7 {F:Nat} (hF:100 < F) {k:List UInt8} (hk:k.length=32) (v:Vector UInt32 16):∃ v',iter (fun s:Int×Vector UInt32 16=>EI F k s.1 s.2) F ((0:Int),v)=some v':=by
 obtain ⟨r,h,_⟩:=cL (f:=fun s:Int×Vector UInt32 16=>EI F k s.1 s.2) (fun s=>∃ i:Nat,s.1=i∧i≤8) (fun _=>True) (fun s=>8 - s.1.toNat) (by
   rintro ⟨a,u⟩ ⟨i,hi,h8⟩
   simp only at hi
   subst hi
   by_cases h:i < 8
   ·have h1:(((i:Nat):Int) < 8):=by omega
    have e3:ag (((i:Nat):Int) + 1)=((i + 1:Nat):Int):=by rw [aY (by omega) (by omega)];omega
    have e4:ag ((4:Int) + ((i:Nat):Int))=((4 + i:Nat):Int):=by rw [aY (by omega) (by omega)];omega
    have e5:ag ((4:Int) * ((i:Nat):Int))=((4 * i:Nat):Int):=by rw [aY (by omega) (by omega)];omega
    obtain ⟨w,hw⟩:=Ud F (p:=k) (i:=4 * i) (by omega) (by omega)
    refine .inl ⟨(((i + 1:Nat):Int),u.setIfInBounds (4 + i) w),?_,⟨i + 1,rfl,by omega⟩,by simp only [Int.toNat_natCast];omega⟩
    simp only [EI,Hw,h1,decide_true,cond_true,e5,hw,Option.bind_some,e3,e4,dJ (show 4 + i < 16 by omega)]
   ·obtain rfl:i=8:=by omega
    exact .inr ⟨u,rfl,trivial⟩) F ((0:Int),v) ⟨0,rfl,by omega⟩ (by simp only [Int.toNat_zero];omega)
 exact ⟨r,h⟩
theorem l8 {F:Nat} (hF:100 < F) {k:List UInt8} (hk:k.length=12) (v:Vector UInt32 16):∃ v',iter (fun s:Int×Vector UInt32 16=>H8 F k s.1 s.2) F ((0:Int),v)=some v':=by
 obtain ⟨r,h,_⟩:=cL (f:=fun s:Int×Vector UInt32 16=>H8 F k s.1 s.2) (fun s=>∃ i:Nat,s.1=i∧i≤3) (fun _=>True) (fun s=>3 - s.1.toNat) (by
   rintro ⟨a,u⟩ ⟨i,hi,h8⟩
   simp only at hi
   subst hi
   by_cases h:i < 3
   ·have h1:(((i:Nat):Int) < 3):=by omega
    have e3:ag (((i:Nat):Int) + 1)=((i + 1:Nat):Int):=by rw [aY (by omega) (by omega)];omega
    have e4:ag ((13:Int) + ((i:Nat):Int))=((13 + i:Nat):Int):=by rw [aY (by omega) (by omega)];omega
    have e5:ag ((4:Int) * ((i:Nat):Int))=((4 * i:Nat):Int):=by rw [aY (by omega) (by omega)];omega
    obtain ⟨w,hw⟩:=Ud F (p:=k) (i:=4 * i) (by omega) (by omega)
    refine .inl ⟨(((i + 1:Nat):Int),u.setIfInBounds (13 + i) w),?_,⟨i + 1,rfl,by omega⟩,by simp only [Int.toNat_natCast];omega⟩
    simp only [H8,EO,h1,decide_true,cond_true,e5,hw,Option.bind_some,e3,e4,dJ (show 13 + i < 16 by omega)]
   ·obtain rfl:i=3:=by omega
    exact .inr ⟨u,rfl,trivial⟩) F ((0:Int),v) ⟨0,rfl,by omega⟩ (by simp only [Int.toNat_zero];omega)
 exact ⟨r,h⟩
theorem l12 {F:Nat} (hF:100 < F) (a b:Vector UInt32 16):∃ r:List UInt8,iter (fun s:Int×List UInt8=>Iw F a b s.1 s.2) F ((0:Int),([]:List UInt8))=some r∧r.length=64:=by
 exact cL (f:=fun s:Int×List UInt8=>Iw F a b s.1 s.2) (fun s=>∃ i:Nat,s.1=i∧i≤16∧s.2.length=4 * i) (fun r=>r.length=64) (fun s=>16 - s.1.toNat) (by
   rintro ⟨x,u⟩ ⟨i,hi,h8,hl⟩
   simp only at hi hl
   subst hi
   by_cases h:i < 16
   ·have h1:(((i:Nat):Int) < 16):=by omega
    have e3:ag (((i:Nat):Int) + 1)=((i + 1:Nat):Int):=by rw [aY (by omega) (by omega)];omega
    have ga:∀ y:List UInt8,y.length=4->aD u y=some (u ++ y):=fun y hy=>pJ (by omega)
    refine .inl ⟨(((i + 1:Nat):Int),u ++ [((a[i] + b[i]).toUInt8),((cn (a[i] + b[i]) ((UInt64.ofNat 8).toNat)).toUInt8),((cn (a[i] + b[i]) ((UInt64.ofNat 16).toNat)).toUInt8),((cn (a[i] + b[i]) ((UInt64.ofNat 24).toNat)).toUInt8)]),?_,⟨i + 1,rfl,by omega,by simp [hl];omega⟩,by simp only [Int.toNat_natCast];omega⟩
    simp only [Iw,JW,h1,decide_true,cond_true,aiH,dJ h,de (v:=a) h,de (v:=b) h,Option.bind_some,e3]
    rw [ga _ rfl,Option.bind_some]
   ·obtain rfl:i=16:=by omega
    exact .inr ⟨u,rfl,hl⟩) F ((0:Int),([]:List UInt8)) ⟨0,rfl,by omega,rfl⟩ (by simp only [Int.toNat_zero];omega)
theorem WS (F:Nat) (k n:List UInt8):wY F k n=some (decide (k.length=32) && decide (n.length=12)):=by
 by_cases h1:k.length=32
 ·have e1:((k.length:Int) == 32)=true:=by rw [h1];rfl
  by_cases h2:n.length=12
  ·have e2:((n.length:Int) == 12)=true:=by rw [h2];rfl
   simp [wY,yM,e1,e2,h1,h2]
  ·have e2:((n.length:Int) == 12)=false:=by rw [beq_eq_false_iff_ne];omega
   simp [wY,yM,e1,e2,h1,h2]
 ·have e1:((k.length:Int) == 32)=false:=by rw [beq_eq_false_iff_ne];omega
  simp [wY,yM,e1,h1]
theorem ajb {F:Nat} (hF:100 < F) {k n:List UInt8} (hk:k.length=32) (hn:n.length=12) (c:UInt32):∃ b,PC F k n c=some (0,b)∧b.length=64:=by
 obtain ⟨v1,h1⟩:=l7 hF hk (Vector.setIfInBounds (Vector.setIfInBounds (Vector.setIfInBounds (Vector.setIfInBounds (Vector.replicate 16 (0:UInt32)) 0 (UInt32.ofNat 1634760805)) 1 (UInt32.ofNat 857760878)) 2 (UInt32.ofNat 2036477234)) 3 (UInt32.ofNat 1797285236))
 obtain ⟨v2,h2⟩:=l8 hF hn (Vector.setIfInBounds v1 12 c)
 obtain ⟨v3,h3⟩:=l9 hF v2
 obtain ⟨r,h4,h5⟩:=l12 hF v3 v2
 have g0:cw (0:UInt8) (0:Int) (64:Int)=some []:=by decide +kernel
 simp only [rows] at h3
 refine ⟨r,?_,h5⟩
 simp only [PC,Hf,WS,hk,hn,decide_true,Bool.and_self,Option.bind_some,Bool.not_true,cond_false,h1,h2,h3,g0,h4]
theorem ag0 {F:Nat} {k n:List UInt8} {N:Nat} (hF:200 + N < F) (hN:N≤1048576) (hk:k.length=32) (hn:n.length=12):∃ s,P3 F k n 0 (N:Int)=some (0,s)∧s.length=N:=by
 obtain ⟨r,b1,b2⟩:=cL (f:=fun s:Int×List UInt8=>Gy F k n 0 (N:Int) s.1 s.2)
  (fun s=>∃ i:Nat,s.1=i∧i≤N∧s.2.length=N) (fun r=>r.length=N) (fun s=>N - s.1.toNat) (by
   rintro ⟨a,u⟩ ⟨i,hi,hiN,hl⟩
   simp only at hi hl
   subst hi
   have w1:ag ((0:Int) + ((i:Nat):Int))=((i:Nat):Int):=by rw [aY (by omega) (by omega)];omega
   by_cases h:i < N
   ·have h1:(((i:Nat):Int) < (N:Int)):=by omega
    obtain ⟨b,c1,c3⟩:=ajb (F:=F) (by omega) hk hn (UInt32.ofInt (ag (Int.tdiv ((i:Nat):Int) 64)))
    have g1:bW u.length ((i:Nat):Int) (u.length:Int)=some (i,N):=by rw [hl];exact jR (by omega) (Nat.le_refl _)
    have g2:bW b.length ((i % 64:Nat):Int) (b.length:Int)=some (i % 64,64):=by rw [c3];exact jR (by omega) (by omega)
    have iT:((b.drop (i % 64)).take (64 - i % 64)).length=64 - i % 64:=by simp;omega
    generalize Cb:(b.drop (i % 64)).take (64 - i % 64)=y at iT
    have Ba:Nat.min y.length (N - i)≤N - i:=Nat.min_le_right _ _
    have hm2:Nat.min y.length (N - i)≤y.length:=Nat.min_le_left _ _
    have hm3:0 < Nat.min y.length (N - i):=by
     show 0 < min y.length (N - i)
     omega
    generalize NG:Nat.min y.length (N - i)=m at Ba hm2 hm3
    have w3:ag (((i:Nat):Int) + ((m:Nat):Int))=((i + m:Nat):Int):=by rw [aY (by omega) (by omega)];omega
    refine .inl ⟨(((i + m:Nat):Int),bC u i y m),?_,⟨i + m,rfl,by omega,by rw [S3 u y (by omega) hm2,hl]⟩,by simp only [Int.toNat_natCast];omega⟩
    simp only [Gy,Cv,h1,decide_true,cond_true,w1,c1,Option.bind_some,g1,q9,g2,Cb,NG,w3]
   ·obtain rfl:i=N:=by omega
    have h1:¬ (((i:Nat):Int) < (i:Int)):=by omega
    refine .inr ⟨u,?_,hl⟩
    simp only [Gy,Cv,h1,decide_false,cond_false]) F ((0:Int),List.replicate N 0) ⟨0,rfl,by omega,by simp⟩ (by simp only [Int.toNat_zero];omega)
 have d0:¬ ((0:Int) < 0):=by omega
 have d1:¬ ((N:Int) < 0):=by omega
 have d2:¬ ((1048576:Int) < (N:Int)):=by omega
 have w:ag ((274877906944:Int) - (N:Int))=274877906944 - (N:Int):=aY (by omega) (by omega)
 have d3:¬ ((274877906944:Int) - (N:Int) < 0):=by omega
 have g0:cw (0:UInt8) (N:Int) (N:Int)=some (List.replicate N 0):=by
  unfold cw;rw [if_pos (by omega)];simp only [Int.toNat_natCast]
 refine ⟨r,?_,b2⟩
 simp only [P3,K7,WS,hk,hn,decide_true,Bool.and_self,Option.bind_some,Bool.not_true,cond_false,d0,d1,d2,w,d3,decide_false,g0,b1]
end Go.Proofs.YtiahcmabcbpcpaaGreatDoor
namespace Go.Proofs.YtiahcmabcbpcpaaGreatDoor
open Go.Tw
theorem agu {F:Nat} (hF:50 < F) (ls:List (List UInt8)) (hl:ls.length≤5):∃ r,iter (fun s:Int=>yD F (ls.length:Int) ls s) F (0:Int)=some r∧((r=.inl ()∧∀ j (h:j < ls.length),ls[j].length=32)∨(r=.inr false∧∃ j,∃ h:j < ls.length,ls[j].length ≠ 32)):=
 cL (f:=fun s:Int=>yD F (ls.length:Int) ls s) (fun s=>∃ i:Nat,s=i∧i≤ls.length∧∀ j (h:j < ls.length),j < i->ls[j].length=32) _ (fun s=>ls.length - s.toNat) (by
  rintro s ⟨i,rfl,hi,hj⟩
  by_cases h:i < ls.length
  ·have h1:(((i:Nat):Int) < (ls.length:Int)):=by omega
   have e3:ag (((i:Nat):Int) + 1)=((i + 1:Nat):Int):=by rw [aY (by omega) (by omega)];omega
   by_cases d_:ls[i].length=32
   ·have e:((ls[i].length:Int) != 32)=false:=by rw [d_];rfl
    refine .inl ⟨((i + 1:Nat):Int),?_,⟨i + 1,rfl,by omega,fun j hj2 hlt=>?_⟩,by simp only [Int.toNat_natCast];omega⟩
    ·simp only [yD,yI,h1,decide_true,cond_true,dJ h,Option.bind_some,List.getElem?_eq_getElem h,e,cond_false,e3]
    ·by_cases hji:j=i
     ·subst hji;exact d_
     ·exact hj j hj2 (by omega)
   ·have e:((ls[i].length:Int) != 32)=true:=by rw [bne_iff_ne];omega
    refine .inr ⟨.inr false,?_,.inr ⟨rfl,i,h,d_⟩⟩
    simp only [yD,yI,h1,decide_true,cond_true,dJ h,Option.bind_some,List.getElem?_eq_getElem h,e]
  ·have h1:¬ (((i:Nat):Int) < (ls.length:Int)):=by omega
   refine .inr ⟨.inl (),?_,.inl ⟨rfl,fun j h2=>hj j h2 (by omega)⟩⟩
   simp only [yD,yI,h1,decide_false,cond_false]) F (0:Int) ⟨0,rfl,by omega,fun j _ h=>absurd h (by omega)⟩ (by simp only [Int.toNat_zero];omega)
section
variable {F:Nat} {p0 p1 p2 p3 p4:List UInt8}
theorem aoq (hF:45000 < F) (v1:r7 F p0 p1 p2 p3 p4=some true) (k0:p0.length=32) {g:Int} (h0:0≤g) {c:List UInt8} (hc:c.length≤32768):∃ t,MP F p0 p1 p2 p3 p4 g c=some (t,0)∧t.length=32:=by
 have hg:¬ g < 0:=by omega
 have d:¬ ((32768:Int) < (c.length:Int)):=by omega
 have el:=FT 9 (UInt64.ofInt g).toNat
 have el2:(enc (UInt64.ofInt g).toNat).length≤10:=by simpa [enc] using el.1
 have ga:aD (enc (UInt64.ofInt g).toNat) c=some (enc (UInt64.ofInt g).toNat ++ c):=pJ (by omega)
 obtain ⟨t,t1,t3⟩:=Vg (F:=F) (k:=p0) (d:=enc (UInt64.ofInt g).toNat ++ c) (by rw [List.length_append];omega) (by omega) (by rw [List.length_append];omega)
 exact ⟨t,by simp only [MP,Kk,v1,Option.bind_some,Bool.not_true,cond_false,hg,d,decide_false,t44 (show 50 < F by omega),ga,t1],t3⟩
theorem apf (hF:45000 < F) (v1:r7 F p0 p1 p2 p3 p4=some true) (k2:p2.length=32) {c:List UInt8} (hc:c.length≤32768):∃ k,PD F p0 p1 p2 p3 p4 c=some (0,k)∧k.length=16:=by
 have d:¬ ((32768:Int) < (c.length:Int)):=by omega
 obtain ⟨t,t1,t3⟩:=Vg (F:=F) (k:=p2) (d:=c) (by omega) (by omega) (by omega)
 have g1:bk t (0:Int) (16:Int)=some (t.take 16):=lR (a:=0) (b:=16) (by omega) (by omega)
 have g2:p_ (t.take 16)=some (t.take 16):=by unfold p_;rw [if_pos (by simp;omega)]
 exact ⟨t.take 16,by simp only [PD,Jv,v1,Option.bind_some,Bool.not_true,cond_false,d,decide_false,t1,g1,g2],by simp;omega⟩
theorem akM (hF:45000 < F) (v1:r7 F p0 p1 p2 p3 p4=some true) (k1:p1.length=32) {nm:List UInt8} (hm:nm.length=32) {N:Nat} (hN:N≤41000):∃ s,QE F p0 p1 p2 p3 p4 nm (N:Int)=some (0,s)∧s.length=N:=by
 have d0:((nm.length:Int) != 32)=false:=by rw [hm];rfl
 have h0:¬ (N:Int) < 0:=by omega
 have h1:¬ (65536:Int) < (N:Int):=by omega
 have g1:bk nm (0:Int) (12:Int)=some (nm.take 12):=lR (a:=0) (b:=12) (by omega) (by omega)
 obtain ⟨s,s1,s3⟩:=ag0 (F:=F) (k:=p1) (n:=nm.take 12) (N:=N) (by omega) (by omega) k1 (by simp;omega)
 exact ⟨s,by simp only [QE,Fc,v1,Option.bind_some,Bool.not_true,cond_false,d0,h0,h1,decide_false,g1,s1],s3⟩
end
end Go.Proofs.YtiahcmabcbpcpaaGreatDoor
namespace Go.Proofs.YtiahcmabcbpcpaaGreatDoor
open Go.Tw
def UY:List UInt8:=[50,51,52,53,54,55,56,57,97,98,99,100,101,102,48,49,50,51,52,53,54,55,56,57,97,98,99,100,101,102]
def key (x y:UInt8):List UInt8:=[x,y] ++ UY
theorem qj (F:Nat) (x y:UInt8):yP F x y=some (key x y)∧(key x y).length=32:=⟨by rfl,by simp [key,UY]⟩
theorem VI (F:Nat) (x:UInt8):Dm F x=some (key x 110,key x 115,key x 99,key x 105,key x 116):=by
 simp only [Dm,Gq,(qj F x _).1,Option.bind_some];rfl
theorem aho {F:Nat} (hF:50 < F) (x:UInt8):r7 F (key x 110) (key x 115) (key x 99) (key x 105) (key x 116)=some true:=by
 obtain ⟨r,h1,h2⟩:=agu hF [key x 110,key x 115,key x 99,key x 105,key x 116] (by simp)
 rcases h2 with ⟨rfl,h⟩ | ⟨rfl,j,hj,h⟩
 ·simp only [r7,I9,h1,Option.bind_some,bz]
 ·exact absurd (by
   have hj':j < 5:=hj
   match j,hj' with
   | 0,_=>exact (qj F x _).2
   | 1,_=>exact (qj F x _).2
   | 2,_=>exact (qj F x _).2
   | 3,_=>exact (qj F x _).2
   | 4,_=>exact (qj F x _).2) h
theorem an3:∀ j:_root_.Fin 38,(j.val≤21->bq j.val≤2560)∧(21 < j.val->2560≤bq (j.val - 1)):=by decide
theorem Xt {F:Nat} (hF:50 < F) {n:Nat} (h:n≤2500):64≤eL (n:Int)∧eL (n:Int)≤2560∧kN F (n:Int)=some (eL (n:Int),0):=by
 have h1:=(FB hF (n:=(n:Int)) (by omega) (by omega)).1
 obtain ⟨j,hj,h2,h3,h4⟩:=R1 hF (n:=(n:Int)) (by omega) (by omega)
 rw [h1] at h2
 have e:eL (n:Int)=bq j:=by simpa using h2
 obtain ⟨c1,c2⟩:=an3 ⟨j,hj⟩
 have hsz:=Mf (n:Int).toNat
 refine ⟨YP _,?_,h1⟩
 rw [e]
 rcases Nat.lt_or_ge 21 j with h5 | h5
 ·have:=c2 h5
  simp only at this
  rcases h4 with rfl | h4
  ·omega
  ·omega
 ·exact c1 h5
theorem ama {F:Nat} (hF:45000 < F) (x:UInt8) {c:List UInt8} (hc:c.length≤2500):∃ t b,wF F (key x 110) (key x 115) (key x 99) (key x 105) (key x 116) 0 c=some (t,0,(c.length:Int),0,b)∧t.length=32∧(b.length:Int)=eL (c.length:Int):=by
 have v:=aho (F:=F) (by omega) x
 obtain ⟨t,t1,t2⟩:=aoq hF v (qj F x _).2 (g:=0) (by omega) (c:=c) (by omega)
 obtain ⟨k,k1,k2⟩:=apf hF v (qj F x _).2 (c:=c) (by omega)
 obtain ⟨j,hj,c2,c3,_⟩:=R1 (F:=F) (by omega) (n:=(c.length:Int)) (by omega) (by omega)
 obtain ⟨d1,d2,d3⟩:=Xt (F:=F) (by omega) hc
 have e:eL (c.length:Int)=bq j:=by rw [d3] at c2;simpa using c2
 obtain ⟨s,s1,s2⟩:=akM hF v (qj F x _).2 t2 (N:=(bq j).toNat) (by omega)
 have VV:(((bq j).toNat:Nat):Int)=bq j:=by omega
 rw [VV] at s1
 obtain ⟨b1,b2⟩:=t34 (F:=F) (by omega) (s:=s) (k:=k) (c:=c) (by omega) k2 hj c2 s2
 refine ⟨t,gO (yz (bq j).toNat c k) s,?_,t2,?_⟩
 ·simp only [wF,GJ,t1,Option.bind_some,ec,cond_false,k1,c2,s1,b1]
 ·rw [Y5 (by rw [b2,s2]),b2,VV,e]
abbrev Cd:=(List UInt8×Int×Int×Unit)×List UInt8×Unit
theorem aeT {F:Nat} (hF:45000 < F) (x:UInt8) {n:Nat} (hn:n≤2500):∃ (t y b:List UInt8),Ss F x (n:Int)=some ([((t,0,(y.length:Int),()),y,())]:List Cd)∧y.length=n∧t.length=32∧(b.length:Int)=eL (n:Int)∧wF F (key x 110) (key x 115) (key x 99) (key x 105) (key x 116) 0 y=some (t,0,(y.length:Int),0,b):=by
 obtain ⟨y,hy,hl⟩:=cL (f:=fun s:Int×List UInt8=>Ii F x (n:Int) s.1 s.2) (fun s=>∃ (j:Nat) (y:List UInt8),s=((j:Int),y)∧y.length=n) (fun z=>z.length=n) (fun s=>n - s.1.toNat) (by
  rintro s ⟨j,y,rfl,hy⟩
  by_cases hlt:j < n
  ·have c1:decide ((j:Int) < (n:Int))=true:=decide_eq_true (by omega)
   exact .inl ⟨_,by simp only [Ii,DS,c1,cond_true,iy (show j < y.length by omega),Option.bind_some,dH (show j < 9223372036854775807 by omega)];rfl,⟨j + 1,_,rfl,by simp [hy]⟩,by simp;omega⟩
  ·have c1:decide ((j:Int) < (n:Int))=false:=decide_eq_false (by omega)
   exact .inr ⟨y,by simp only [Ii,DS,c1,cond_false],hy⟩) F ((0:Int),List.replicate n (0:UInt8)) ⟨0,_,rfl,by simp⟩ (by simp;omega)
 obtain ⟨t,b,h1,h2,h3⟩:=ama hF x (c:=y) (by omega)
 refine ⟨t,y,b,?_,hl,h2,by rw [h3,hl],h1⟩
 simp only [Ss,H6,rz (0:UInt8) (show n≤1099511627776 by omega),Option.bind_some,hy,WN,K5,VI,h1,ec,cond_false]
theorem afz {F:Nat} (hF:5000 < F) {r:Rf} (hv:vR r=true) (hc:∃ c,kN F r.2.2.1=some (c,0)):Q0 F [r] 1=some ([[r]],0):=by
 obtain ⟨c,hc⟩:=hc
 have h1:xS F [r]=some true:=by
  rw [YA (by simp) (by omega)]
  simp [lz,vF,hv]
 have st:uH F 1 [r] 1 0 ([],[]) []=some (.inl ((1:Int),([none,some [r]],[1]),cJ .i ([]:List (Int×Int)) c 0)):=by
  simp only [uH,Bk,show decide ((0:Int) < 1)=true by decide,cond_true,show ix [r] (0:Int)=some r from rfl,Option.bind_some,hc]
  rfl
 have en:uH F 1 [r] 1 1 ([none,some [r]],[1]) (cJ .i ([]:List (Int×Int)) c 0)=some (.inr ([none,some [r]],[1])):=by
  simp only [uH,Bk,show decide ((1:Int) < 1)=false by decide,cond_false]
 obtain ⟨f,hf⟩:∃ f,F=f + 1 + 1:=⟨F - 2,by omega⟩
 have lp:iter (fun s:Int×(List (Option (List Rf))×List Nat)×List (Int×Int)=>uH F 1 [r] (([r]:List Rf).length:Int) s.1 s.2.1 s.2.2) F ((0:Int),(([],[]),[]))=some ([none,some [r]],[1]):=by
  conv=>lhs;arg 2;rw [hf]
  exact (uC (f:=fun s:Int×(List (Option (List Rf))×List Nat)×List (Int×Int)=>uH F 1 [r] (([r]:List Rf).length:Int) s.1 s.2.1 s.2.2) st).trans (m7 en)
 simp only [Q0,KV,show decide ((1:Int) < 1)=false by decide,show decide ((8:Int) < 1)=false by decide,cond_false,h1,Option.bind_some,Bool.not_true,lp]
 rfl
theorem nc {σ ρ:Type} {f:σ->Option (σ ⊕ ρ)} {F:Nat} (hF:5000 < F) {s s':σ} {r:ρ} (h1:f s=some (.inl s')) (h2:f s'=some (.inr r)):iter f F s=some r:=by
 obtain ⟨g,rfl⟩:∃ g,F=g + 1 + 1:=⟨F - 2,by omega⟩
 rw [uC h1,m7 h2]
theorem Uw {F:Nat} (hF:50000≤F) (x:UInt8) {n:Nat} (hn:n≤2500):∃ S D ss,T5 F x (n:Int)=some (S,0,D,ss,true)∧dL F S 0 D ss∧(D.length:Int)=eL (n:Int):=by
 obtain ⟨t,y,b,h1,hy,ht,hb,h2⟩:=aeT (F:=F) (by omega) x hn
 have ke:=Xt (F:=F) (by omega) hn
 rw [← hy] at ke hb
 obtain ⟨d1,d2,d3⟩:=ke
 generalize hr:((t,(0:Int),(y.length:Int),()):Rf)=r at *
 have hv:vR r=true:=by
  subst hr
  exact decide_eq_true ⟨by show ((t.length:Nat):Int)=32;omega,by show (0:Int)≤0;omega,by show (0:Int)≤(y.length:Int);omega,by show (y.length:Int)≤32768;omega⟩
 have Io:eL r.2.2.1=eL (y.length:Int):=by subst hr;rfl
 have hpk:=afz (F:=F) (by omega) (r:=r) hv ⟨_,by subst hr;exact d3⟩
 have oz:lz [r]=true:=by simp [lz,vF,hv]
 have AJ:hc [r]=eL (y.length:Int):=by rw [← Io];rfl
 have hmk:=aoI hF (jD:=0) (data:=1) (total:=2) (refs:=[r]) (bs:=[b]) (by simp) (by simp;omega)
 have hok:LS 0 1 2 [r] [b]=true:=by
  unfold LS
  rw [oz,AJ]
  simp [mO,Io,hb]
 rw [hok,cond_true] at hmk
 generalize hX:lA (1:Int).toNat (2:Int).toNat (hc [r]).toNat [b]=xs at hmk
 have hxl:xs.length=2:=by rw [← hX];exact abw _ _ _ _
 have US:∀ z ∈ xs,z.length=(eL (y.length:Int)).toNat:=by
  rw [← hX,AJ]
  exact aaq fun z hz=>by rw [List.mem_singleton.1 hz];omega
 obtain ⟨x0,x1,rfl⟩:∃ x0 x1,xs=[x0,x1]:=by
  match xs,hxl with
  | [a,b],_=>exact ⟨a,b,rfl⟩
 have hx0:x0.length=(eL (y.length:Int)).toNat:=US _ (by simp)
 have hx1:x1.length=(eL (y.length:Int)).toNat:=US _ (by simp)
 have s0:=RW (F:=F) (by omega) (x:=x0) (by omega)
 have s1:=RW (F:=F) (by omega) (x:=x1) (by omega)
 have qq:∀ z ∈ [hsh F x0,hsh F x1],z.length=32:=fun z hz=>by
  simp at hz;rcases hz with rfl | rfl
  ·exact s0
  ·exact s1
 have GR:=(lX (F:=F) (by omega) (l:=[hsh F x0,hsh F x1]) (by simp) qq).2
 refine ⟨rt F F [hsh F x0,hsh F x1],x0,[hsh F x0,hsh F x1],?_,?_,by rw [← hy,hx0];omega⟩
 ·have l4:iter (fun s:Int×List Rf×List (Rf×List UInt8)=>JX F ([(r,y,())]:List Cd) (key x 110) (key x 115) (key x 99) (key x 105) (key x 116) s.1 s.2.1 s.2.2) F ((0:Int),([]:List Rf),([]:List (Rf×List UInt8)))=some (.inl ([r],cJ (.pr .s (.pr .i (.pr .i .un))) ([]:List (Rf×List UInt8)) r b)):=by
   refine nc (by omega) (s':=((1:Int),[r],cJ (.pr .s (.pr .i (.pr .i .un))) ([]:List (Rf×List UInt8)) r b)) ?_ ?_
   ·subst hr
    simp only [JX,DO,show decide ((0:Int) < (([((t,(0:Int),(y.length:Int),()),y,())]:List Cd).length:Int))=true from rfl,cond_true,show ix ([((t,(0:Int),(y.length:Int),()),y,())]:List Cd) (0:Int)=some ((t,(0:Int),(y.length:Int),()),y,()) from rfl,Option.bind_some,h2,ec,cond_false,beq_self_eq_true,Bool.and_self,Bool.not_true,show aD ([]:List Rf) [(t,(0:Int),(y.length:Int),())]=some [(t,(0:Int),(y.length:Int),())] from rfl,show ag ((0:Int) + 1)=1 by decide]
   ·simp only [JX,DO,show decide ((1:Int) < (([(r,y,())]:List Cd).length:Int))=false from rfl,cond_false]
  have hk:eX (.pr .s (.pr .i (.pr .i .un))) r r=true:=by
   show ((r.1 == r.1) && ((r.2.1 == r.2.1) && ((r.2.2.1 == r.2.2.1) && true)))=true
   simp
  have hmg:eM (.pr .s (.pr .i (.pr .i .un))) (cJ (.pr .s (.pr .i (.pr .i .un))) ([]:List (Rf×List UInt8)) r b) r ([]:List UInt8)=b:=by
   simp only [eM,cJ,fG,hk,cond_true,Option.getD_some]
  have l6:iter (fun s:Int×List (List UInt8)=>KG F [[r]] 0 (cJ (.pr .s (.pr .i (.pr .i .un))) ([]:List (Rf×List UInt8)) r b) s.1 s.2) F ((0:Int),([]:List (List UInt8)))=some [b]:=by
   refine nc (by omega) (s':=((1:Int),[b])) ?_ ?_
   ·have ajt:eM (.pr .s (.pr .i (.pr .i .un))) (cJ (.pr .s (.pr .i (.pr .i .un))) ([]:List (Rf×List UInt8)) r b) (r.1,r.2.1,r.2.2.1,()) ([]:List UInt8)=b:=hmg
    simp only [KG,An,show ix [[r]] (0:Int)=some [r] from rfl,show ix [r] (0:Int)=some r from rfl,Option.bind_some,show decide ((0:Int) < (([r]:List Rf).length:Int))=true from rfl,cond_true,ajt,show aD ([]:List (List UInt8)) [b]=some [b] from rfl,show ag ((0:Int) + 1)=1 by decide]
   ·simp only [KG,An,show ix [[r]] (0:Int)=some [r] from rfl,Option.bind_some,show decide ((1:Int) < (([r]:List Rf).length:Int))=false from rfl,cond_false]
  have hm0:(A5 F 0 1 2 [r] [b])=(rt F F [hsh F x0,hsh F x1],0,hc [r],1,2,0,[r],qB F [x0,x1]):=by simp only [A5,hX];rfl
  rw [hm0] at hmk
  have l5:∃ z,iter (fun s=>JN F 1 2 [[r]] (cJ (.pr .s (.pr .i (.pr .i .un))) ([]:List (Rf×List UInt8)) r b) s.1 s.2.1 s.2.2) F ((0:Int),([]:List (List UInt8×Int×Int×Int×Int×List Rf×Unit)),([]:List (List Pc)))=some (.inl ([z],[qB F [x0,x1]])):=by
   refine ⟨(rt F F [hsh F x0,hsh F x1],0,hc [r],1,2,[r],()),nc (by omega) (s':=((1:Int),[(rt F F [hsh F x0,hsh F x1],0,hc [r],1,2,[r],())],[qB F [x0,x1]])) ?_ ?_⟩
   ·simp only [JN,Dy,show decide ((0:Int) < (([[r]]:List (List Rf)).length:Int))=true from rfl,cond_true,l6,Option.bind_some,show ix [[r]] (0:Int)=some [r] from rfl,hmk,ec,cond_false,show ag ((0:Int) + 1)=1 by decide]
    rfl
   ·simp only [JN,Dy,show decide ((1:Int) < (([[r]]:List (List Rf)).length:Int))=false from rfl,cond_false]
  obtain ⟨z,l5⟩:=l5
  have Oo:qB F [x0,x1]=[((rt F F [hsh F x0,hsh F x1],0,()),x0,[hsh F x0,hsh F x1],()),((rt F F [hsh F x0,hsh F x1],1,()),x1,[hsh F x0,hsh F x1],())]:=by rfl
  rw [Oo] at l5
  simp only [T5,Lw,VI,h1,Option.bind_some,WC,JM,l4,bz,hpk,ec,cond_false,l5,W9,KY,Bool.not_true]
  rfl
 ·refine ⟨by omega,⟨GR,by simp,by omega,by omega,by simp,qq⟩,by omega,rfl,rfl,?_⟩
  have ha:pq [hsh F x0,hsh F x1]=true:=by simp [pq,s0,s1]
  have hd:decide ((rt F F [hsh F x0,hsh F x1]).length=32∧1≤[hsh F x0,hsh F x1].length∧[hsh F x0,hsh F x1].length≤16∧(0:Int)≤((0:Nat):Int)∧((0:Nat):Int) < ([hsh F x0,hsh F x1].length:Int)∧1≤x0.length∧x0.length≤65536)=true:=decide_eq_true ⟨GR,by simp,by simp,by simp,by simp,by omega,by omega⟩
  unfold lP
  rw [hd,ha]
  simp
end Go.Proofs.YtiahcmabcbpcpaaGreatDoor
namespace Go.Proofs.YtiahcmabcbpcpaaGreatDoor
open Go.Tw
theorem TV {z x:Int} (h:z ≠ x):eX .i z x=false:=by show (z == x)=false;simpa using h
theorem ai8 (z:Int):eX .i z z=true:=by show (z == z)=true;simp
theorem XF {β:Type}:∀ (l:List (Int×β)) (x:Int) (y:β) (z:Int),z ≠ x->fG .i (cJ .i l x y) z=fG .i l z
 | [],x,y,z,h=>by simp only [cJ,fG,TV h,cond_false]
 | e :: l,x,y,z,h=>by
  have ih:=XF l x y z h
  by_cases hx:x=e.1
  ·subst hx
   simp only [cJ,ai8,cond_true,fG,TV h,cond_false]
  ·simp only [cJ,TV hx,cond_false,fG,ih]
def sG (P:Nat) (M:List (Int×Bool)) (q:Nat->Bool):Prop:=∀ k,k < P->q k=false->eM .i M ((512 * k:Nat):Int) false=false
theorem sG.put {P:Nat} {M:List (Int×Bool)} {q:Nat->Bool} (h:sG P M q) (k:Nat):sG P (cJ .i M ((512 * k:Nat):Int) true) (jl q k):=fun j hj hq=>by
 have hne:j ≠ k:=fun e=>by subst e;rw [Dr] at hq;cases hq
 rw [z0 q hne] at hq
 have:=h j hj hq
 simp only [eM] at this ⊢
 rw [XF M _ _ _ (by omega)];exact this
theorem PY {P:Nat} {q:Nat->Bool} {k:Nat}:k ∈ eN P q ↔ k < P∧q k=false:=by simp [eN]
theorem asr (P:Nat) (q:Nat->Bool):(eN P q).Nodup:=List.Pairwise.filter _ List.nodup_range
theorem arC {l:List Nat} {j:Nat} {k:Nat} (h:l[j]? = some k):(eo l)[j]? = some ((512 * k:Nat):Int):=by simp [eo,h]
abbrev Yi:=Int×List (Int×Bool)×Bool×Int×List (List UInt8)×List (List (List UInt8))×List UInt8×List UInt8×List UInt8×List UInt8×List UInt8
theorem aed (F:Nat) {dm:List Int} (hc:∀ c ∈ dm,-9223372036854775808≤c∧c≤9223372036854775807) {j:Nat} (hj:j≤dm.length) :
  mX F dm (j:Int) 1048576 (-1) (decide ((j:Int) < (dm.length:Int)))=some (.inr true) ∨
  ∃ (p:Nat) (cut:Int),mX F dm (j:Int) 1048576 (-1) (decide ((j:Int) < (dm.length:Int)))=some (.inl ((p:Int),cut))∧p≤1048576∧cut < 9223372036854775808∧(j=dm.length->p=1048576∧cut = -1):=by
 by_cases h:j < dm.length
 ·have c1:decide ((j:Int) < (dm.length:Int))=true:=decide_eq_true (by omega)
  have hx:dm[j]? = some dm[j]:=List.getElem?_eq_getElem h
  have hb:=hc _ (List.getElem_mem h)
  by_cases h0:dm[j] < 0
  ·exact .inl (by simp only [mX,sH,c1,cond_true,cU hx,Option.bind_some,decide_eq_true h0])
  ·have c2:=decide_eq_false h0
   cases h2:(Int.tmod (j:Int) 2 == 1) with
   | true=>
    have h3:0≤Int.tmod dm[j] 1048576∧Int.tmod dm[j] 1048576 < 1048576:=by
     rw [Int.tmod_eq_emod_of_nonneg (by omega)];omega
    refine .inr ⟨(Int.tmod dm[j] 1048576).toNat,-1,?_,by omega,by omega,fun e=>by omega⟩
    simp only [mX,sH,c1,cond_true,cU hx,Option.bind_some,c2,cond_false,h2]
    rw [show (((Int.tmod dm[j] 1048576).toNat:Nat):Int)=Int.tmod dm[j] 1048576 by omega]
   | false=>
    exact .inr ⟨1048576,dm[j],by simp only [mX,sH,c1,cond_true,cU hx,Option.bind_some,c2,cond_false,h2];rfl,by omega,by omega,fun e=>by omega⟩
 ·have c1:decide ((j:Int) < (dm.length:Int))=false:=decide_eq_false (by omega)
  exact .inr ⟨1048576,-1,by simp only [mX,sH,c1,cond_false];rfl,by omega,by omega,fun _=>⟨rfl,rfl⟩⟩
section
variable {F:Nat} {S:List UInt8} {i:Nat} {D:List UInt8} {ss:List (List UInt8)} (H:dL F S i D ss)
include H
theorem dL.link {q:Nat->Bool} {M:List (Int×Bool)} (hM:sG (Lv F D).length M q) {p:Nat} (hp:p < 2000000000) {cut:Int} (lD:cut < 9223372036854775808) :
  ∃ (M':List (Int×Bool)) (d:Bool) (q':Nat->Bool) (s:List UInt8),iter (fun s:Yi=>ow F S (i:Int) S (i:Int) (D.length:Int) (p:Int) cut (eo (eN (Lv F D).length q)) D ss s.1 s.2.1 s.2.2.1 s.2.2.2.1 s.2.2.2.2.1 s.2.2.2.2.2.1 s.2.2.2.2.2.2.1 s.2.2.2.2.2.2.2.1 s.2.2.2.2.2.2.2.2.1 s.2.2.2.2.2.2.2.2.2.1 s.2.2.2.2.2.2.2.2.2.2) F ((0:Int),M,false,(0:Int),dS D (Lv F D).length q,pS F D (Lv F D).length q,([]:List UInt8),([]:List UInt8),([]:List UInt8),([]:List UInt8),([]:List UInt8)) =
   some (.inl (M',d,dS D (Lv F D).length q',pS F D (Lv F D).length q',s,[],[],[]))∧sG (Lv F D).length M' q'∧s.length≤p∧(0≤cut->(s.length:Int)≤cut)∧s.length≤20000∧(p=1048576∧cut = -1->∀ k,k < (Lv F D).length->q' k=true):=by
 have hF:=H.hF
 have h8:=H.l8
 have hml:=WU (Lv F D).length q
 have qe:∀ k ∈ eN (Lv F D).length q,k < (Lv F D).length:=fun k hk=>(PY.1 hk).1
 have hall:∀ k,k < (Lv F D).length->q k=true∨k ∈ eN (Lv F D).length q:=fun k hk=>by
  cases h:q k with
  | true=>exact .inl rfl
  | false=>exact .inr (PY.2 ⟨hk,h⟩)
 have hmq:∀ k ∈ eN (Lv F D).length q,q k=false:=fun k hk=>(PY.1 hk).2
 have pi:=asr (Lv F D).length q
 generalize eN (Lv F D).length q=ms at *
 obtain ⟨z,hz,M',d,q',s,rfl,g1,g2,g3,g4,g5⟩:=cL (f:=fun s:Yi=>ow F S (i:Int) S (i:Int) (D.length:Int) (p:Int) cut (eo ms) D ss s.1 s.2.1 s.2.2.1 s.2.2.2.1 s.2.2.2.2.1 s.2.2.2.2.2.1 s.2.2.2.2.2.2.1 s.2.2.2.2.2.2.2.1 s.2.2.2.2.2.2.2.2.1 s.2.2.2.2.2.2.2.2.2.1 s.2.2.2.2.2.2.2.2.2.2)
  (fun st=>∃ (k:Nat) (M:List (Int×Bool)) (qk:Nat->Bool) (s:List UInt8),st=((k:Int),M,false,(0:Int),dS D (Lv F D).length qk,pS F D (Lv F D).length qk,s,[],[],[],[])∧k≤ms.length∧sG (Lv F D).length M qk∧s.length≤p∧(0≤cut->(s.length:Int)≤cut)∧s.length≤2000 * k∧(∀ j,j < (Lv F D).length->qk j=true∨j ∈ ms.drop k)∧(∀ j ∈ ms.drop k,qk j=false))
  (fun z=>∃ (M':List (Int×Bool)) (d:Bool) (q':Nat->Bool) (s:List UInt8),z=.inl (M',d,dS D (Lv F D).length q',pS F D (Lv F D).length q',s,[],[],[])∧sG (Lv F D).length M' q'∧s.length≤p∧(0≤cut->(s.length:Int)≤cut)∧s.length≤20000∧(p=1048576∧cut = -1->∀ k,k < (Lv F D).length->q' k=true))
  (fun s=>ms.length - s.1.toNat) (by
  rintro st ⟨k,M,qk,s,rfl,hk,hM,hsp,hsc,hs2,hq1,xj⟩
  have D2:((eo ms).length:Int)=(ms.length:Int):=by simp [eo]
  by_cases hlt:k < ms.length
  ·have c1:decide ((k:Int) < ((eo ms).length:Int))=true:=decide_eq_true (by rw [D2];omega)
   have hx:ms[k]? = some ms[k]:=List.getElem?_eq_getElem hlt
   have hmk:=qe _ (List.getElem_mem hlt)
   have hox:=arC hx
   have HR:ms.drop k=ms[k] :: ms.drop (k + 1):=List.drop_eq_getElem_cons hlt
   have wP:qk ms[k]=false:=xj _ (by rw [HR];exact List.mem_cons.2 (.inl rfl))
   have b1:an (eo ms).length (k:Int)=some k:=iy (by simpa [eo] using hlt)
   have GX:=H.part hmk
   have hel:=El GX
   have hm:=hM _ hmk wP
   rcases akl (F:=F) hF (b:=EP S i (512 * ms[k]) (chunk D ms[k]) (bT F F (Lv F D) ms[k])) (by omega) (by omega) (s:=s) (by omega) hp hsc lD with ⟨e1,e2,e3⟩ | ⟨s',d,y,e1,e2,e3,e4⟩
   ·refine .inl ⟨(((k + 1:Nat):Int),cJ .i M ((512 * ms[k]:Nat):Int) true,false,(0:Int),dS D (Lv F D).length (jl qk ms[k]),pS F D (Lv F D).length (jl qk ms[k]),s ++ fr F (EP S i (512 * ms[k]) (chunk D ms[k]) (bT F F (Lv F D) ms[k])),[],[],[],[]),?_,⟨k + 1,_,_,_,rfl,by omega,hM.put _,by simp;omega,e3,?_,?_,?_⟩,by simp;omega⟩
    ·simp only [ow,vw,c1,cond_true,b1,hox,Option.bind_some,H.send hmk,Rx (F:=F) (by omega) GX,ec,cond_false,hm,e1,Bool.not_true,YW (F:=F) (by omega) GX,show ((11:Int) != 11)=false by decide,H.take hmk wP,dH (show k < 9223372036854775807 by omega)]
    ·have:=(ya (F:=F) hF (b:=EP S i (512 * ms[k]) (chunk D ms[k]) (bT F F (Lv F D) ms[k])) (by omega)).2
     have:=eK (EP S i (512 * ms[k]) (chunk D ms[k]) (bT F F (Lv F D) ms[k])).length
     simp only [List.length_append];omega
    ·intro j hj
     rcases hq1 j hj with h | h
     ·exact .inl (by simp [jl,h])
     ·rw [HR] at h
      rcases List.mem_cons.1 h with rfl | h
      ·exact .inl (Dr _ _)
      ·exact .inr h
    ·intro j hj
     have hne:j ≠ ms[k]:=fun e=>by
      have hn:(ms.drop k).Nodup:=pi.sublist (List.drop_sublist k ms)
      rw [HR] at hn
      exact (List.nodup_cons.1 hn).1 (e ▸ hj)
     rw [z0 qk hne]
     exact xj j (by rw [HR];exact List.mem_cons_of_mem _ hj)
   ·refine .inr ⟨.inl (M,d,dS D (Lv F D).length qk,pS F D (Lv F D).length qk,s',[],[],[]),?_,M,d,qk,s',rfl,hM,?_,e4,?_,?_⟩
    ·simp only [ow,vw,c1,cond_true,b1,hox,Option.bind_some,H.send hmk,Rx (F:=F) (by omega) GX,ec,cond_false,hm,e1,Bool.not_true,Bool.not_false]
    ·rcases e3 with ⟨_,rfl⟩ | ⟨h,_⟩
     ·exact hsp
     ·exact h
    ·have:=(ya (F:=F) hF (b:=EP S i (512 * ms[k]) (chunk D ms[k]) (bT F F (Lv F D) ms[k])) (by omega)).2
     have:=eK (EP S i (512 * ms[k]) (chunk D ms[k]) (bT F F (Lv F D) ms[k])).length
     omega
    ·rintro ⟨rfl,rfl⟩
     have:=(ya (F:=F) hF (b:=EP S i (512 * ms[k]) (chunk D ms[k]) (bT F F (Lv F D) ms[k])) (by omega)).2
     have:=eK (EP S i (512 * ms[k]) (chunk D ms[k]) (bT F F (Lv F D) ms[k])).length
     rcases e3 with ⟨h,_⟩ | ⟨_,h⟩<;>omega
  ·have c1:decide ((k:Int) < ((eo ms).length:Int))=false:=decide_eq_false (by rw [D2];omega)
   refine .inr ⟨.inl (M,false,dS D (Lv F D).length qk,pS F D (Lv F D).length qk,s,[],[],[]),by simp only [ow,vw,c1,cond_false],M,false,qk,s,rfl,hM,hsp,hsc,by omega,fun _ j hj=>?_⟩
   rcases hq1 j hj with h | h
   ·exact h
   ·rw [List.drop_eq_nil_of_le (by omega)] at h;cases h) F ((0:Int),M,false,(0:Int),dS D (Lv F D).length q,pS F D (Lv F D).length q,([]:List UInt8),([]:List UInt8),([]:List UInt8),([]:List UInt8),([]:List UInt8)) ⟨0,M,q,[],rfl,by omega,hM,by simp,fun h=>by simpa using h,by simp,by simpa using hall,by simpa using hmq⟩ (by simp;omega)
 exact ⟨M',d,q',s,hz,g1,g2,g3,g4,g5⟩
abbrev RA:=Int×List UInt8×Int×Int×List (Int×Bool)×List (List UInt8)×List (List UInt8)×List (List (List UInt8))
theorem dL.links {dm:List Int} (hl:dm.length≤5) (hc:∀ c ∈ dm,-9223372036854775808≤c∧c≤9223372036854775807) :
  iter (fun s:RA=>mg F dm S (i:Int) D s.1 s.2.1 s.2.2.1 s.2.2.2.1 s.2.2.2.2.1 s.2.2.2.2.2.1 s.2.2.2.2.2.2.1 s.2.2.2.2.2.2.2) F ((0:Int),S,(i:Int),(D.length:Int),([]:List (Int×Bool)),ss,dS D (Lv F D).length (fun _=>false),pS F D (Lv F D).length (fun _=>false))=some (.inr true) ∨
  ∃ q:Nat->Bool,(∀ k,k < (Lv F D).length->q k=true)∧iter (fun s:RA=>mg F dm S (i:Int) D s.1 s.2.1 s.2.2.1 s.2.2.2.1 s.2.2.2.2.1 s.2.2.2.2.2.1 s.2.2.2.2.2.2.1 s.2.2.2.2.2.2.2) F ((0:Int),S,(i:Int),(D.length:Int),([]:List (Int×Bool)),ss,dS D (Lv F D).length (fun _=>false),pS F D (Lv F D).length (fun _=>false))=some (.inl (S,(i:Int),(D.length:Int),ss,dS D (Lv F D).length q,pS F D (Lv F D).length q)):=by
 have hF:=H.hF
 have h8:=H.l8
 obtain ⟨z,hz,hQ⟩:=cL (f:=fun s:RA=>mg F dm S (i:Int) D s.1 s.2.1 s.2.2.1 s.2.2.2.1 s.2.2.2.2.1 s.2.2.2.2.2.1 s.2.2.2.2.2.2.1 s.2.2.2.2.2.2.2)
  (fun st=>∃ (j:Nat) (M:List (Int×Bool)) (q:Nat->Bool),st=((j:Int),S,(i:Int),(D.length:Int),M,ss,dS D (Lv F D).length q,pS F D (Lv F D).length q)∧j≤dm.length + 1∧sG (Lv F D).length M q∧(j=dm.length + 1->∀ k,k < (Lv F D).length->q k=true))
  (fun z=>z=.inr true∨∃ q:Nat->Bool,(∀ k,k < (Lv F D).length->q k=true)∧z=.inl (S,(i:Int),(D.length:Int),ss,dS D (Lv F D).length q,pS F D (Lv F D).length q))
  (fun s=>dm.length + 1 - s.1.toNat) (by
  rintro st ⟨j,M,q,rfl,hj,hM,hq⟩
  by_cases hlt:j≤dm.length
  ·have c1:decide ((j:Int)≤(dm.length:Int))=true:=decide_eq_true (by omega)
   rcases aed F hc hlt with hb | ⟨p,cut,hb,hp,FO,ajY⟩
   ·exact .inr ⟨.inr true,by simp only [mg,rU,c1,cond_true,hb,Option.bind_some,bz],.inl rfl⟩
   ·obtain ⟨M',d,q',s,e1,e2,e3,e4,e5,e6⟩:=H.link hM (p:=p) (by omega) FO
    have h9:T9 F (p:Int)=some (0,false):=by
     have k1:decide ((p:Int) < 0)=false:=decide_eq_false (by omega)
     have k2:decide ((1073741824:Int) < (p:Int))=false:=decide_eq_false (by omega)
     simp only [T9,E_,k1,k2,cond_false]
    have h10:ZR F=some 0:=by rfl
    have h11:=H.missing q ((S,(i:Int),()),(D.length:Int),ss,()) (pS F D (Lv F D).length q)
    have jh:=aeU F s [] [] [] (p:Int) cut d
    have jt:=NC F (a:=s) (b:=[]) (c:=[]) (d:=[]) (by simp;omega) (p:=p) (by omega) cut d
    simp only [List.length_nil,Nat.add_zero] at jt
    have w:ag ((p:Int) - (s.length:Int))=(p:Int) - (s.length:Int):=cS (by omega) (by omega)
    have k1:decide ((p:Int) < (s.length:Int))=false:=decide_eq_false (by omega)
    have k2:((p:Int) - (s.length:Int) != (p:Int) - (s.length:Int))=false:=by simp
    have Vm:=H.save q'
    have Z0:=H.resume q'
    obtain ⟨v,XR⟩:=H.bytes q' ((S,(i:Int),()),(D.length:Int),ss,()) (pS F D (Lv F D).length q')
    have k3:(v != v)=false:=by simp
    refine .inl ⟨(((j + 1:Nat):Int),S,(i:Int),(D.length:Int),M',ss,dS D (Lv F D).length q',pS F D (Lv F D).length q'),?_,⟨j + 1,M',q',rfl,by omega,e2,fun e=>e6 (ajY (by omega))⟩,by simp;omega⟩
    by_cases h0:0≤cut
    ·have k4:decide ((0:Int)≤cut)=true:=decide_eq_true h0
     have k5:decide (cut < (s.length:Int))=false:=decide_eq_false (by have:=e4 h0;omega)
     simp only [mg,rU,c1,cond_true,hb,Option.bind_some,bz,h9,ec,cond_false,h10,h11,e1,jh,k1,k4,k5,jt,w,k2,Vm,Z0,XR,k3,dH (show j < 9223372036854775807 by omega)]
    ·have k4:decide ((0:Int)≤cut)=false:=decide_eq_false h0
     simp only [mg,rU,c1,cond_true,hb,Option.bind_some,bz,h9,ec,cond_false,h10,h11,e1,jh,k1,k4,jt,w,k2,Vm,Z0,XR,k3,dH (show j < 9223372036854775807 by omega)]
  ·have c1:decide ((j:Int)≤(dm.length:Int))=false:=decide_eq_false (by omega)
   exact .inr ⟨.inl (S,(i:Int),(D.length:Int),ss,dS D (Lv F D).length q,pS F D (Lv F D).length q),by simp only [mg,rU,c1,cond_false],.inr ⟨q,hq (by omega),rfl⟩⟩) F ((0:Int),S,(i:Int),(D.length:Int),([]:List (Int×Bool)),ss,dS D (Lv F D).length (fun _=>false),pS F D (Lv F D).length (fun _=>false)) ⟨0,[],_,rfl,by omega,fun _ _ _=>rfl,fun e=>by omega⟩ (by simp;omega)
 rcases hQ with rfl | ⟨q,hq,rfl⟩
 ·exact .inl hz
 ·exact .inr ⟨q,hq,hz⟩
end
theorem asH {F:Nat} (hF:50000≤F) (Dd:T4 F=some true) (x:UInt8) (n:Int) (dm:List Int) (hc:∀ c ∈ dm,-9223372036854775808≤c∧c≤9223372036854775807):T3 F x n dm=some true:=by
 by_cases h0:n < 0
 ·simp only [T3,q7,Dd,Option.bind_some,Bool.not_true,cond_false,decide_eq_true h0,cond_true]
 by_cases h1:2500 < n
 ·simp only [T3,q7,Dd,Option.bind_some,Bool.not_true,cond_false,decide_eq_false h0,decide_eq_true h1,cond_true]
 by_cases h2:5 < (dm.length:Int)
 ·simp only [T3,q7,Dd,Option.bind_some,Bool.not_true,cond_false,decide_eq_false h0,decide_eq_false h1,decide_eq_true h2,cond_true]
 obtain ⟨m,rfl⟩:∃ m:Nat,n=(m:Int):=⟨n.toNat,by omega⟩
 obtain ⟨S,D,ss,e5,H,_⟩:=Uw hF x (n:=m) (by omega)
 have h4:=H.d4
 have hl:=H.hd.hl
 have xa:=Yb (F:=F) (by omega) S (0:Int) D (bO:=ss)
 rw [show lP F S 0 D ss=true from H.v] at xa
 have h6:T6 F S 0 D ss=some (0,(D.length:Int),ss,D):=by
  simp only [T6,BQ,xa,Option.bind_some,Bool.not_true,cond_false,tv (F:=F) (show ss.length≤1000000 by omega),IB (F:=F) (show D.length≤1000000 by omega)]
 have h8:T8 F ss=some ss:=by
  simp only [T8,Kv,T36,Es,tv (F:=F) (show ss.length≤1000000 by omega),Option.bind_some]
 have h7:=H.new
 rw [show ((0:Nat):Int)=0 from rfl] at h7
 rcases H.links (dm:=dm) (by omega) hc with hk | ⟨q,hq,hk⟩
 ·rw [show ((0:Nat):Int)=0 from rfl] at hk
  simp only [T3,q7,Dd,Option.bind_some,Bool.not_true,cond_false,decide_eq_false h0,decide_eq_false h1,decide_eq_false h2,e5,h6,ec,h8,h7,hk,bz]
 ·have Xi:=H.piece hq
  rw [show ((0:Nat):Int)=0 from rfl] at hk Xi
  simp only [T3,q7,Dd,Option.bind_some,Bool.not_true,cond_false,decide_eq_false h0,decide_eq_false h1,decide_eq_false h2,e5,h6,ec,h8,h7,hk,bz,Xi,tR,cond_true,xa,beq_self_eq_true,Bool.and_self]
end Go.Proofs.YtiahcmabcbpcpaaGreatDoor
namespace Go.Proofs.YtiahcmabcbpcpaaGreatDoor
open Go.Tw
theorem aiE:VS 50000=some true:=by kernel_rfl
end Go.Proofs.YtiahcmabcbpcpaaGreatDoor
