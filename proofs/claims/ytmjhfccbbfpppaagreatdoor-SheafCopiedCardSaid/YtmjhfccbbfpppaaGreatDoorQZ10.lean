import Derived.Test.YtmjhfccbbfpppaaGreatDoorProg
import Derived.KernelRfl
import Derived.Test.YtmjhfccbbfpppaaGreatDoorQZ08
namespace Go.Proofs.YtmjhfccbbfpppaaGreatDoor
open Go Pm
@[go_sem] theorem tb_tk_0:tk Tryz.prog 0=TK.other:=by kernel_rfl
@[go_sem] theorem tb_loadK_0:a0o Tryz.prog 0=some (false,1):=by kernel_rfl
@[go_sem] theorem tb_zeroK_0:a0q Tryz.prog 0=some [Value.tuple { toList:=[] }]:=by kernel_rfl
@[go_sem] theorem tb_bytesK_0:a0g Tryz.prog 0=some 0:=by kernel_rfl
@[go_sem] theorem tb_byteEl_0:a0h Tryz.prog 0=false:=by kernel_rfl
@[go_sem] theorem tb_tk_1:tk Tryz.prog 1=TK.other:=by kernel_rfl
@[go_sem] theorem tb_loadK_1:a0o Tryz.prog 1=some (false,1):=by kernel_rfl
@[go_sem] theorem tb_zeroK_1:a0q Tryz.prog 1=some [Value.nilFunc]:=by kernel_rfl
@[go_sem] theorem tb_bytesK_1:a0g Tryz.prog 1=some 8:=by kernel_rfl
@[go_sem] theorem tb_byteEl_1:a0h Tryz.prog 1=false:=by kernel_rfl
@[go_sem] theorem tb_tk_2:tk Tryz.prog 2=TK.int IntKind.i64:=by kernel_rfl
@[go_sem] theorem tb_loadK_2:a0o Tryz.prog 2=some (false,1):=by kernel_rfl
@[go_sem] theorem tb_zeroK_2:a0q Tryz.prog 2=some [Value.int IntKind.i64 0]:=by kernel_rfl
@[go_sem] theorem tb_bytesK_2:a0g Tryz.prog 2=some 8:=by kernel_rfl
@[go_sem] theorem tb_byteEl_2:a0h Tryz.prog 2=false:=by kernel_rfl
@[go_sem] theorem tb_tk_3:tk Tryz.prog 3=TK.int IntKind.i64:=by kernel_rfl
@[go_sem] theorem tb_loadK_3:a0o Tryz.prog 3=some (false,1):=by kernel_rfl
@[go_sem] theorem tb_zeroK_3:a0q Tryz.prog 3=some [Value.int IntKind.i64 0]:=by kernel_rfl
@[go_sem] theorem tb_bytesK_3:a0g Tryz.prog 3=some 8:=by kernel_rfl
@[go_sem] theorem tb_byteEl_3:a0h Tryz.prog 3=false:=by kernel_rfl
@[go_sem] theorem tb_tk_4:tk Tryz.prog 4=TK.bool:=by kernel_rfl
@[go_sem] theorem tb_loadK_4:a0o Tryz.prog 4=some (false,1):=by kernel_rfl
@[go_sem] theorem tb_zeroK_4:a0q Tryz.prog 4=some [Value.bool false]:=by kernel_rfl
@[go_sem] theorem tb_bytesK_4:a0g Tryz.prog 4=some 1:=by kernel_rfl
@[go_sem] theorem tb_byteEl_4:a0h Tryz.prog 4=false:=by kernel_rfl
@[go_sem] theorem tb_tk_5:tk Tryz.prog 5=TK.int IntKind.u8:=by kernel_rfl
@[go_sem] theorem tb_loadK_5:a0o Tryz.prog 5=some (false,1):=by kernel_rfl
@[go_sem] theorem tb_zeroK_5:a0q Tryz.prog 5=some [Value.int IntKind.u8 0]:=by kernel_rfl
@[go_sem] theorem tb_bytesK_5:a0g Tryz.prog 5=some 1:=by kernel_rfl
@[go_sem] theorem tb_byteEl_5:a0h Tryz.prog 5=false:=by kernel_rfl
@[go_sem] theorem tb_tk_6:tk Tryz.prog 6=TK.int IntKind.u8:=by kernel_rfl
@[go_sem] theorem tb_loadK_6:a0o Tryz.prog 6=some (false,1):=by kernel_rfl
@[go_sem] theorem tb_zeroK_6:a0q Tryz.prog 6=some [Value.int IntKind.u8 0]:=by kernel_rfl
@[go_sem] theorem tb_bytesK_6:a0g Tryz.prog 6=some 1:=by kernel_rfl
@[go_sem] theorem tb_byteEl_6:a0h Tryz.prog 6=false:=by kernel_rfl
@[go_sem] theorem tb_tk_7:tk Tryz.prog 7=TK.other:=by kernel_rfl
@[go_sem] theorem tb_loadK_7:a0o Tryz.prog 7=some (true,4):=by kernel_rfl
@[go_sem] theorem tb_zeroK_7:a0q Tryz.prog 7=some [Value.int IntKind.i64 0,Value.int IntKind.i64 0,Value.bool false,Value.int IntKind.u8 0]:=by kernel_rfl
@[go_sem] theorem tb_bytesK_7:a0g Tryz.prog 7=some 24:=by kernel_rfl
@[go_sem] theorem tb_placesK_7:a0y Tryz.prog 7=some [(0,1),(1,1),(2,1),(3,1)]:=by kernel_rfl
@[go_sem] theorem tb_byteEl_7:a0h Tryz.prog 7=false:=by kernel_rfl
@[go_sem] theorem tb_flatK_7:a5s Tryz.prog 7=some [TypeDesc.int IntKind.i64,TypeDesc.int IntKind.i64,TypeDesc.bool,TypeDesc.int IntKind.u8]:=by kernel_rfl
@[go_sem] theorem tb_fieldK_7_0:a0u Tryz.prog 7 0=some (0,false,1):=by kernel_rfl
@[go_sem] theorem tb_fieldK_7_1:a0u Tryz.prog 7 1=some (1,false,1):=by kernel_rfl
@[go_sem] theorem tb_fieldK_7_2:a0u Tryz.prog 7 2=some (2,false,1):=by kernel_rfl
@[go_sem] theorem tb_fieldK_7_3:a0u Tryz.prog 7 3=some (3,false,1):=by kernel_rfl
@[go_sem] theorem tb_tk_8:tk Tryz.prog 8=TK.other:=by kernel_rfl
@[go_sem] theorem tb_loadK_8:a0o Tryz.prog 8=some (true,4):=by kernel_rfl
@[go_sem] theorem tb_zeroK_8:a0q Tryz.prog 8=some [Value.int IntKind.i64 0,Value.int IntKind.i64 0,Value.bool false,Value.int IntKind.u8 0]:=by kernel_rfl
@[go_sem] theorem tb_bytesK_8:a0g Tryz.prog 8=some 24:=by kernel_rfl
@[go_sem] theorem tb_placesK_8:a0y Tryz.prog 8=some [(0,1),(1,1),(2,1),(3,1)]:=by kernel_rfl
@[go_sem] theorem tb_byteEl_8:a0h Tryz.prog 8=false:=by kernel_rfl
@[go_sem] theorem tb_flatK_8:a5s Tryz.prog 8=some [TypeDesc.int IntKind.i64,TypeDesc.int IntKind.i64,TypeDesc.bool,TypeDesc.int IntKind.u8]:=by kernel_rfl
@[go_sem] theorem tb_fieldK_8_0:a0u Tryz.prog 8 0=some (0,false,1):=by kernel_rfl
@[go_sem] theorem tb_fieldK_8_1:a0u Tryz.prog 8 1=some (1,false,1):=by kernel_rfl
@[go_sem] theorem tb_fieldK_8_2:a0u Tryz.prog 8 2=some (2,false,1):=by kernel_rfl
@[go_sem] theorem tb_fieldK_8_3:a0u Tryz.prog 8 3=some (3,false,1):=by kernel_rfl
@[go_sem] theorem d5t:tk Tryz.prog 9=TK.str:=by kernel_rfl
@[go_sem] theorem tb_loadK_9:a0o Tryz.prog 9=some (false,1):=by kernel_rfl
@[go_sem] theorem d3w:a0q Tryz.prog 9=some [Value.string ByteArray.empty]:=by kernel_rfl
@[go_sem] theorem tb_bytesK_9:a0g Tryz.prog 9=some 16:=by kernel_rfl
@[go_sem] theorem tb_byteEl_9:a0h Tryz.prog 9=false:=by kernel_rfl
@[go_sem] theorem tb_arrLoad_9:a3b Tryz.prog 9=none:=by kernel_rfl
@[go_sem] theorem tb_tk_10:tk Tryz.prog 10=TK.str:=by kernel_rfl
@[go_sem] theorem tb_loadK_10:a0o Tryz.prog 10=some (false,1):=by kernel_rfl
@[go_sem] theorem tb_zeroK_10:a0q Tryz.prog 10=some [Value.string ByteArray.empty]:=by kernel_rfl
@[go_sem] theorem tb_bytesK_10:a0g Tryz.prog 10=some 16:=by kernel_rfl
@[go_sem] theorem tb_byteEl_10:a0h Tryz.prog 10=false:=by kernel_rfl
@[go_sem] theorem tb_arrLoad_10:a3b Tryz.prog 10=none:=by kernel_rfl
@[go_sem] theorem tb_tk_11:tk Tryz.prog 11=TK.str:=by kernel_rfl
@[go_sem] theorem tb_loadK_11:a0o Tryz.prog 11=some (false,1):=by kernel_rfl
@[go_sem] theorem tb_zeroK_11:a0q Tryz.prog 11=some [Value.string ByteArray.empty]:=by kernel_rfl
@[go_sem] theorem tb_bytesK_11:a0g Tryz.prog 11=some 16:=by kernel_rfl
@[go_sem] theorem tb_byteEl_11:a0h Tryz.prog 11=false:=by kernel_rfl
@[go_sem] theorem tb_arrLoad_11:a3b Tryz.prog 11=none:=by kernel_rfl
@[go_sem] theorem tb_tk_12:tk Tryz.prog 12=TK.int IntKind.u64:=by kernel_rfl
@[go_sem] theorem tb_loadK_12:a0o Tryz.prog 12=some (false,1):=by kernel_rfl
@[go_sem] theorem tb_zeroK_12:a0q Tryz.prog 12=some [Value.int IntKind.u64 0]:=by kernel_rfl
@[go_sem] theorem tb_bytesK_12:a0g Tryz.prog 12=some 8:=by kernel_rfl
@[go_sem] theorem tb_byteEl_12:a0h Tryz.prog 12=false:=by kernel_rfl
@[go_sem] theorem tb_tk_13:tk Tryz.prog 13=TK.other:=by kernel_rfl
@[go_sem] theorem tb_loadK_13:a0o Tryz.prog 13=some (true,2):=by kernel_rfl
@[go_sem] theorem tb_zeroK_13:a0q Tryz.prog 13=some [Value.string ByteArray.empty,Value.int IntKind.u64 0]:=by kernel_rfl
@[go_sem] theorem tb_bytesK_13:a0g Tryz.prog 13=some 24:=by kernel_rfl
@[go_sem] theorem tb_placesK_13:a0y Tryz.prog 13=some [(0,1),(1,1)]:=by kernel_rfl
@[go_sem] theorem tb_byteEl_13:a0h Tryz.prog 13=false:=by kernel_rfl
@[go_sem] theorem tb_fieldK_13_0:a0u Tryz.prog 13 0=some (0,false,1):=by kernel_rfl
@[go_sem] theorem tb_fieldK_13_1:a0u Tryz.prog 13 1=some (1,false,1):=by kernel_rfl
@[go_sem] theorem tb_tk_14:tk Tryz.prog 14=TK.other:=by kernel_rfl
@[go_sem] theorem tb_loadK_14:a0o Tryz.prog 14=some (true,2):=by kernel_rfl
@[go_sem] theorem tb_zeroK_14:a0q Tryz.prog 14=some [Value.string ByteArray.empty,Value.int IntKind.u64 0]:=by kernel_rfl
@[go_sem] theorem tb_bytesK_14:a0g Tryz.prog 14=some 24:=by kernel_rfl
@[go_sem] theorem tb_placesK_14:a0y Tryz.prog 14=some [(0,1),(1,1)]:=by kernel_rfl
@[go_sem] theorem tb_byteEl_14:a0h Tryz.prog 14=false:=by kernel_rfl
@[go_sem] theorem tb_fieldK_14_0:a0u Tryz.prog 14 0=some (0,false,1):=by kernel_rfl
@[go_sem] theorem tb_fieldK_14_1:a0u Tryz.prog 14 1=some (1,false,1):=by kernel_rfl
@[go_sem] theorem tb_tk_15:tk Tryz.prog 15=TK.ptr:=by kernel_rfl
@[go_sem] theorem tb_loadK_15:a0o Tryz.prog 15=some (false,1):=by kernel_rfl
@[go_sem] theorem tb_zeroK_15:a0q Tryz.prog 15=some [Value.pointer none]:=by kernel_rfl
@[go_sem] theorem tb_bytesK_15:a0g Tryz.prog 15=some 8:=by kernel_rfl
@[go_sem] theorem tb_byteEl_15:a0h Tryz.prog 15=false:=by kernel_rfl
@[go_sem] theorem tb_tk_16:tk Tryz.prog 16=TK.ptr:=by kernel_rfl
@[go_sem] theorem tb_loadK_16:a0o Tryz.prog 16=some (false,1):=by kernel_rfl
@[go_sem] theorem tb_zeroK_16:a0q Tryz.prog 16=some [Value.pointer none]:=by kernel_rfl
@[go_sem] theorem tb_bytesK_16:a0g Tryz.prog 16=some 8:=by kernel_rfl
@[go_sem] theorem tb_byteEl_16:a0h Tryz.prog 16=false:=by kernel_rfl
@[go_sem] theorem tb_tk_17:tk Tryz.prog 17=TK.ptr:=by kernel_rfl
@[go_sem] theorem tb_loadK_17:a0o Tryz.prog 17=some (false,1):=by kernel_rfl
@[go_sem] theorem tb_zeroK_17:a0q Tryz.prog 17=some [Value.pointer none]:=by kernel_rfl
@[go_sem] theorem tb_bytesK_17:a0g Tryz.prog 17=some 8:=by kernel_rfl
@[go_sem] theorem tb_byteEl_17:a0h Tryz.prog 17=false:=by kernel_rfl
@[go_sem] theorem tb_tk_18:tk Tryz.prog 18=TK.other:=by kernel_rfl
@[go_sem] theorem tb_loadK_18:a0o Tryz.prog 18=some (true,1):=by kernel_rfl
@[go_sem] theorem tb_zeroK_18:a0q Tryz.prog 18=some [Value.pointer none]:=by kernel_rfl
@[go_sem] theorem tb_bytesK_18:a0g Tryz.prog 18=some 8:=by kernel_rfl
@[go_sem] theorem tb_placesK_18:a0y Tryz.prog 18=some [(0,1)]:=by kernel_rfl
@[go_sem] theorem tb_byteEl_18:a0h Tryz.prog 18=false:=by kernel_rfl
@[go_sem] theorem tb_fieldK_18_0:a0u Tryz.prog 18 0=some (0,false,1):=by kernel_rfl
@[go_sem] theorem tb_tk_19:tk Tryz.prog 19=TK.other:=by kernel_rfl
@[go_sem] theorem tb_loadK_19:a0o Tryz.prog 19=some (true,1):=by kernel_rfl
@[go_sem] theorem tb_zeroK_19:a0q Tryz.prog 19=some [Value.pointer none]:=by kernel_rfl
@[go_sem] theorem tb_bytesK_19:a0g Tryz.prog 19=some 8:=by kernel_rfl
@[go_sem] theorem tb_placesK_19:a0y Tryz.prog 19=some [(0,1)]:=by kernel_rfl
@[go_sem] theorem tb_byteEl_19:a0h Tryz.prog 19=false:=by kernel_rfl
@[go_sem] theorem tb_fieldK_19_0:a0u Tryz.prog 19 0=some (0,false,1):=by kernel_rfl
@[go_sem] theorem tb_tk_20:tk Tryz.prog 20=TK.other:=by kernel_rfl
@[go_sem] theorem tb_loadK_20:a0o Tryz.prog 20=some (false,1):=by kernel_rfl
@[go_sem] theorem tb_zeroK_20:a0q Tryz.prog 20=some [Value.nilIface]:=by kernel_rfl
@[go_sem] theorem tb_bytesK_20:a0g Tryz.prog 20=some 16:=by kernel_rfl
@[go_sem] theorem tb_byteEl_20:a0h Tryz.prog 20=false:=by kernel_rfl
@[go_sem] theorem tb_tk_21:tk Tryz.prog 21=TK.int IntKind.i32:=by kernel_rfl
@[go_sem] theorem tb_loadK_21:a0o Tryz.prog 21=some (false,1):=by kernel_rfl
@[go_sem] theorem tb_zeroK_21:a0q Tryz.prog 21=some [Value.int IntKind.i32 0]:=by kernel_rfl
@[go_sem] theorem tb_bytesK_21:a0g Tryz.prog 21=some 4:=by kernel_rfl
@[go_sem] theorem tb_byteEl_21:a0h Tryz.prog 21=false:=by kernel_rfl
@[go_sem] theorem tb_tk_22:tk Tryz.prog 22=TK.slc:=by kernel_rfl
@[go_sem] theorem tb_loadK_22:a0o Tryz.prog 22=some (false,1):=by kernel_rfl
@[go_sem] theorem tb_zeroK_22:a0q Tryz.prog 22=some [Value.slice none 0 0]:=by kernel_rfl
@[go_sem] theorem tb_bytesK_22:a0g Tryz.prog 22=some 24:=by kernel_rfl
@[go_sem] theorem tb_sliceElem_22:a0t Tryz.prog 22=some (115,2):=by kernel_rfl
@[go_sem] theorem tb_arrElem_22:a1z Tryz.prog 22=none:=by kernel_rfl
@[go_sem] theorem tb_byteEl_22:a0h Tryz.prog 22=false:=by kernel_rfl
@[go_sem] theorem tb_tk_23:tk Tryz.prog 23=TK.other:=by kernel_rfl
@[go_sem] theorem tb_loadK_23:a0o Tryz.prog 23=some (true,1):=by kernel_rfl
@[go_sem] theorem tb_zeroK_23:a0q Tryz.prog 23=some [Value.slice none 0 0]:=by kernel_rfl
@[go_sem] theorem tb_bytesK_23:a0g Tryz.prog 23=some 24:=by kernel_rfl
@[go_sem] theorem tb_placesK_23:a0y Tryz.prog 23=some [(0,1)]:=by kernel_rfl
@[go_sem] theorem tb_byteEl_23:a0h Tryz.prog 23=false:=by kernel_rfl
@[go_sem] theorem tb_fieldK_23_0:a0u Tryz.prog 23 0=some (0,false,1):=by kernel_rfl
@[go_sem] theorem tb_tk_24:tk Tryz.prog 24=TK.other:=by kernel_rfl
@[go_sem] theorem tb_loadK_24:a0o Tryz.prog 24=some (true,1):=by kernel_rfl
@[go_sem] theorem tb_zeroK_24:a0q Tryz.prog 24=some [Value.slice none 0 0]:=by kernel_rfl
@[go_sem] theorem tb_bytesK_24:a0g Tryz.prog 24=some 24:=by kernel_rfl
@[go_sem] theorem tb_placesK_24:a0y Tryz.prog 24=some [(0,1)]:=by kernel_rfl
@[go_sem] theorem tb_byteEl_24:a0h Tryz.prog 24=false:=by kernel_rfl
@[go_sem] theorem tb_fieldK_24_0:a0u Tryz.prog 24 0=some (0,false,1):=by kernel_rfl
@[go_sem] theorem tb_tk_25:tk Tryz.prog 25=TK.slc:=by kernel_rfl
@[go_sem] theorem tb_loadK_25:a0o Tryz.prog 25=some (false,1):=by kernel_rfl
@[go_sem] theorem tb_zeroK_25:a0q Tryz.prog 25=some [Value.slice none 0 0]:=by kernel_rfl
@[go_sem] theorem tb_bytesK_25:a0g Tryz.prog 25=some 24:=by kernel_rfl
@[go_sem] theorem tb_sliceElem_25:a0t Tryz.prog 25=some (148,5):=by kernel_rfl
@[go_sem] theorem tb_arrElem_25:a1z Tryz.prog 25=none:=by kernel_rfl
@[go_sem] theorem tb_byteEl_25:a0h Tryz.prog 25=false:=by kernel_rfl
@[go_sem] theorem tb_tk_26:tk Tryz.prog 26=TK.other:=by kernel_rfl
@[go_sem] theorem tb_loadK_26:a0o Tryz.prog 26=some (true,2):=by kernel_rfl
@[go_sem] theorem tb_zeroK_26:a0q Tryz.prog 26=some [Value.int IntKind.i64 0,Value.slice none 0 0]:=by kernel_rfl
@[go_sem] theorem tb_bytesK_26:a0g Tryz.prog 26=some 32:=by kernel_rfl
@[go_sem] theorem tb_placesK_26:a0y Tryz.prog 26=some [(0,1),(1,1)]:=by kernel_rfl
@[go_sem] theorem tb_byteEl_26:a0h Tryz.prog 26=false:=by kernel_rfl
@[go_sem] theorem tb_fieldK_26_0:a0u Tryz.prog 26 0=some (0,false,1):=by kernel_rfl
@[go_sem] theorem tb_fieldK_26_1:a0u Tryz.prog 26 1=some (1,false,1):=by kernel_rfl
@[go_sem] theorem tb_tk_27:tk Tryz.prog 27=TK.other:=by kernel_rfl
@[go_sem] theorem tb_loadK_27:a0o Tryz.prog 27=some (true,2):=by kernel_rfl
@[go_sem] theorem tb_zeroK_27:a0q Tryz.prog 27=some [Value.int IntKind.i64 0,Value.slice none 0 0]:=by kernel_rfl
@[go_sem] theorem tb_bytesK_27:a0g Tryz.prog 27=some 32:=by kernel_rfl
@[go_sem] theorem tb_placesK_27:a0y Tryz.prog 27=some [(0,1),(1,1)]:=by kernel_rfl
@[go_sem] theorem tb_byteEl_27:a0h Tryz.prog 27=false:=by kernel_rfl
@[go_sem] theorem tb_fieldK_27_0:a0u Tryz.prog 27 0=some (0,false,1):=by kernel_rfl
@[go_sem] theorem tb_fieldK_27_1:a0u Tryz.prog 27 1=some (1,false,1):=by kernel_rfl
@[go_sem] theorem tb_tk_29:tk Tryz.prog 29=TK.other:=by kernel_rfl
@[go_sem] theorem tb_loadK_29:a0o Tryz.prog 29=some (false,1):=by kernel_rfl
@[go_sem] theorem tb_zeroK_29:a0q Tryz.prog 29=some [Value.nilFunc]:=by kernel_rfl
@[go_sem] theorem tb_bytesK_29:a0g Tryz.prog 29=some 8:=by kernel_rfl
@[go_sem] theorem tb_byteEl_29:a0h Tryz.prog 29=false:=by kernel_rfl
@[go_sem] theorem tb_tk_30:tk Tryz.prog 30=TK.int IntKind.i64:=by kernel_rfl
@[go_sem] theorem tb_loadK_30:a0o Tryz.prog 30=some (false,1):=by kernel_rfl
@[go_sem] theorem tb_zeroK_30:a0q Tryz.prog 30=some [Value.int IntKind.i64 0]:=by kernel_rfl
@[go_sem] theorem tb_bytesK_30:a0g Tryz.prog 30=some 8:=by kernel_rfl
@[go_sem] theorem tb_byteEl_30:a0h Tryz.prog 30=false:=by kernel_rfl
@[go_sem] theorem tb_tk_32:tk Tryz.prog 32=TK.slc:=by kernel_rfl
@[go_sem] theorem tb_loadK_32:a0o Tryz.prog 32=some (false,1):=by kernel_rfl
@[go_sem] theorem tb_zeroK_32:a0q Tryz.prog 32=some [Value.slice none 0 0]:=by kernel_rfl
@[go_sem] theorem tb_bytesK_32:a0g Tryz.prog 32=some 24:=by kernel_rfl
@[go_sem] theorem b4q:a0t Tryz.prog 32=some (9,1):=by kernel_rfl
@[go_sem] theorem tb_arrElem_32:a1z Tryz.prog 32=none:=by kernel_rfl
@[go_sem] theorem tb_byteEl_32:a0h Tryz.prog 32=false:=by kernel_rfl
@[go_sem] theorem tb_tk_33:tk Tryz.prog 33=TK.other:=by kernel_rfl
@[go_sem] theorem tb_loadK_33:a0o Tryz.prog 33=some (false,1):=by kernel_rfl
@[go_sem] theorem tb_zeroK_33:a0q Tryz.prog 33=some [Value.tuple { toList:=[Value.slice none 0 0,Value.int IntKind.i64 0] }]:=by kernel_rfl
@[go_sem] theorem tb_bytesK_33:a0g Tryz.prog 33=some 0:=by kernel_rfl
@[go_sem] theorem tb_byteEl_33:a0h Tryz.prog 33=false:=by kernel_rfl
@[go_sem] theorem tb_tk_35:tk Tryz.prog 35=TK.other:=by kernel_rfl
@[go_sem] theorem tb_loadK_35:a0o Tryz.prog 35=some (false,1):=by kernel_rfl
@[go_sem] theorem tb_zeroK_35:a0q Tryz.prog 35=some [Value.tuple { toList:=[Value.string ByteArray.empty,Value.int IntKind.i64 0] }]:=by kernel_rfl
@[go_sem] theorem tb_bytesK_35:a0g Tryz.prog 35=some 0:=by kernel_rfl
@[go_sem] theorem tb_byteEl_35:a0h Tryz.prog 35=false:=by kernel_rfl
@[go_sem] theorem tb_tk_37:tk Tryz.prog 37=TK.other:=by kernel_rfl
@[go_sem] theorem tb_loadK_37:a0o Tryz.prog 37=some (false,1):=by kernel_rfl
@[go_sem] theorem tb_zeroK_37:a0q Tryz.prog 37=some [Value.tuple { toList:=[Value.slice none 0 0,Value.int IntKind.i64 0,Value.int IntKind.i64 0] }]:=by kernel_rfl
@[go_sem] theorem tb_bytesK_37:a0g Tryz.prog 37=some 0:=by kernel_rfl
@[go_sem] theorem tb_byteEl_37:a0h Tryz.prog 37=false:=by kernel_rfl
@[go_sem] theorem tb_tk_39:tk Tryz.prog 39=TK.other:=by kernel_rfl
@[go_sem] theorem tb_loadK_39:a0o Tryz.prog 39=some (false,1):=by kernel_rfl
@[go_sem] theorem tb_zeroK_39:a0q Tryz.prog 39=some [Value.tuple { toList:=[Value.agg { toList:=[Value.slice none 0 0] },Value.int IntKind.i64 0] }]:=by kernel_rfl
@[go_sem] theorem tb_bytesK_39:a0g Tryz.prog 39=some 0:=by kernel_rfl
@[go_sem] theorem tb_byteEl_39:a0h Tryz.prog 39=false:=by kernel_rfl
@[go_sem] theorem tb_tk_41:tk Tryz.prog 41=TK.other:=by kernel_rfl
@[go_sem] theorem tb_loadK_41:a0o Tryz.prog 41=some (false,1):=by kernel_rfl
@[go_sem] theorem tb_zeroK_41:a0q Tryz.prog 41=some [Value.nilFunc]:=by kernel_rfl
@[go_sem] theorem tb_bytesK_41:a0g Tryz.prog 41=some 8:=by kernel_rfl
@[go_sem] theorem tb_byteEl_41:a0h Tryz.prog 41=false:=by kernel_rfl
@[go_sem] theorem tb_tk_43:tk Tryz.prog 43=TK.other:=by kernel_rfl
@[go_sem] theorem tb_loadK_43:a0o Tryz.prog 43=some (false,1):=by kernel_rfl
@[go_sem] theorem tb_zeroK_43:a0q Tryz.prog 43=some [Value.nilFunc]:=by kernel_rfl
@[go_sem] theorem tb_bytesK_43:a0g Tryz.prog 43=some 8:=by kernel_rfl
@[go_sem] theorem tb_byteEl_43:a0h Tryz.prog 43=false:=by kernel_rfl
@[go_sem] theorem tb_tk_44:tk Tryz.prog 44=TK.other:=by kernel_rfl
@[go_sem] theorem tb_loadK_44:a0o Tryz.prog 44=some (false,1):=by kernel_rfl
@[go_sem] theorem tb_zeroK_44:a0q Tryz.prog 44=some [Value.nilFunc]:=by kernel_rfl
@[go_sem] theorem tb_bytesK_44:a0g Tryz.prog 44=some 8:=by kernel_rfl
@[go_sem] theorem tb_byteEl_44:a0h Tryz.prog 44=false:=by kernel_rfl
@[go_sem] theorem tb_tk_45:tk Tryz.prog 45=TK.other:=by kernel_rfl
@[go_sem] theorem tb_loadK_45:a0o Tryz.prog 45=some (false,1):=by kernel_rfl
@[go_sem] theorem tb_zeroK_45:a0q Tryz.prog 45=some [Value.tuple { toList:=[Value.agg { toList:=[Value.int IntKind.i64 0,Value.slice none 0 0] },Value.int IntKind.i64 0] }]:=by kernel_rfl
@[go_sem] theorem tb_bytesK_45:a0g Tryz.prog 45=some 0:=by kernel_rfl
@[go_sem] theorem tb_byteEl_45:a0h Tryz.prog 45=false:=by kernel_rfl
@[go_sem] theorem tb_tk_48:tk Tryz.prog 48=TK.int IntKind.u16:=by kernel_rfl
@[go_sem] theorem tb_loadK_48:a0o Tryz.prog 48=some (false,1):=by kernel_rfl
@[go_sem] theorem tb_zeroK_48:a0q Tryz.prog 48=some [Value.int IntKind.u16 0]:=by kernel_rfl
@[go_sem] theorem tb_bytesK_48:a0g Tryz.prog 48=some 2:=by kernel_rfl
@[go_sem] theorem tb_byteEl_48:a0h Tryz.prog 48=false:=by kernel_rfl
@[go_sem] theorem tb_tk_52:tk Tryz.prog 52=TK.other:=by kernel_rfl
@[go_sem] theorem tb_loadK_52:a0o Tryz.prog 52=some (false,1):=by kernel_rfl
@[go_sem] theorem tb_zeroK_52:a0q Tryz.prog 52=some [Value.nilFunc]:=by kernel_rfl
@[go_sem] theorem tb_bytesK_52:a0g Tryz.prog 52=some 8:=by kernel_rfl
@[go_sem] theorem tb_byteEl_52:a0h Tryz.prog 52=false:=by kernel_rfl
@[go_sem] theorem tb_tk_55:tk Tryz.prog 55=TK.slc:=by kernel_rfl
@[go_sem] theorem tb_loadK_55:a0o Tryz.prog 55=some (false,1):=by kernel_rfl
@[go_sem] theorem tb_zeroK_55:a0q Tryz.prog 55=some [Value.slice none 0 0]:=by kernel_rfl
@[go_sem] theorem tb_bytesK_55:a0g Tryz.prog 55=some 24:=by kernel_rfl
@[go_sem] theorem tb_sliceElem_55:a0t Tryz.prog 55=some (87,6):=by kernel_rfl
@[go_sem] theorem tb_arrElem_55:a1z Tryz.prog 55=none:=by kernel_rfl
@[go_sem] theorem tb_byteEl_55:a0h Tryz.prog 55=false:=by kernel_rfl
@[go_sem] theorem tb_tk_59:tk Tryz.prog 59=TK.slc:=by kernel_rfl
@[go_sem] theorem tb_loadK_59:a0o Tryz.prog 59=some (false,1):=by kernel_rfl
@[go_sem] theorem tb_zeroK_59:a0q Tryz.prog 59=some [Value.slice none 0 0]:=by kernel_rfl
@[go_sem] theorem tb_bytesK_59:a0g Tryz.prog 59=some 24:=by kernel_rfl
@[go_sem] theorem tb_sliceElem_59:a0t Tryz.prog 59=some (166,3):=by kernel_rfl
@[go_sem] theorem tb_arrElem_59:a1z Tryz.prog 59=none:=by kernel_rfl
@[go_sem] theorem tb_byteEl_59:a0h Tryz.prog 59=false:=by kernel_rfl
@[go_sem] theorem tb_tk_60:tk Tryz.prog 60=TK.slc:=by kernel_rfl
@[go_sem] theorem tb_loadK_60:a0o Tryz.prog 60=some (false,1):=by kernel_rfl
@[go_sem] theorem tb_zeroK_60:a0q Tryz.prog 60=some [Value.slice none 0 0]:=by kernel_rfl
@[go_sem] theorem tb_bytesK_60:a0g Tryz.prog 60=some 24:=by kernel_rfl
@[go_sem] theorem tb_sliceElem_60:a0t Tryz.prog 60=some (178,9):=by kernel_rfl
@[go_sem] theorem tb_arrElem_60:a1z Tryz.prog 60=none:=by kernel_rfl
@[go_sem] theorem tb_byteEl_60:a0h Tryz.prog 60=false:=by kernel_rfl
@[go_sem] theorem tb_tk_62:tk Tryz.prog 62=TK.other:=by kernel_rfl
@[go_sem] theorem tb_loadK_62:a0o Tryz.prog 62=some (true,2):=by kernel_rfl
@[go_sem] theorem tb_zeroK_62:a0q Tryz.prog 62=some [Value.slice none 0 0,Value.slice none 0 0]:=by kernel_rfl
@[go_sem] theorem tb_bytesK_62:a0g Tryz.prog 62=some 48:=by kernel_rfl
@[go_sem] theorem tb_placesK_62:a0y Tryz.prog 62=some [(0,1),(1,1)]:=by kernel_rfl
@[go_sem] theorem tb_byteEl_62:a0h Tryz.prog 62=false:=by kernel_rfl
@[go_sem] theorem tb_fieldK_62_0:a0u Tryz.prog 62 0=some (0,false,1):=by kernel_rfl
@[go_sem] theorem tb_fieldK_62_1:a0u Tryz.prog 62 1=some (1,false,1):=by kernel_rfl
@[go_sem] theorem tb_tk_64:tk Tryz.prog 64=TK.other:=by kernel_rfl
@[go_sem] theorem tb_loadK_64:a0o Tryz.prog 64=some (false,1):=by kernel_rfl
@[go_sem] theorem tb_zeroK_64:a0q Tryz.prog 64=some [Value.nilFunc]:=by kernel_rfl
@[go_sem] theorem tb_bytesK_64:a0g Tryz.prog 64=some 8:=by kernel_rfl
@[go_sem] theorem tb_byteEl_64:a0h Tryz.prog 64=false:=by kernel_rfl
@[go_sem] theorem tb_tk_65:tk Tryz.prog 65=TK.other:=by kernel_rfl
@[go_sem] theorem tb_loadK_65:a0o Tryz.prog 65=some (false,1):=by kernel_rfl
@[go_sem] theorem tb_zeroK_65:a0q Tryz.prog 65=some [Value.nilFunc]:=by kernel_rfl
@[go_sem] theorem tb_bytesK_65:a0g Tryz.prog 65=some 8:=by kernel_rfl
@[go_sem] theorem tb_byteEl_65:a0h Tryz.prog 65=false:=by kernel_rfl
@[go_sem] theorem tb_tk_68:tk Tryz.prog 68=TK.slc:=by kernel_rfl
@[go_sem] theorem tb_loadK_68:a0o Tryz.prog 68=some (false,1):=by kernel_rfl
@[go_sem] theorem tb_zeroK_68:a0q Tryz.prog 68=some [Value.slice none 0 0]:=by kernel_rfl
@[go_sem] theorem tb_bytesK_68:a0g Tryz.prog 68=some 24:=by kernel_rfl
@[go_sem] theorem tb_sliceElem_68:a0t Tryz.prog 68=some (77,3):=by kernel_rfl
@[go_sem] theorem tb_arrElem_68:a1z Tryz.prog 68=none:=by kernel_rfl
@[go_sem] theorem tb_byteEl_68:a0h Tryz.prog 68=false:=by kernel_rfl
@[go_sem] theorem tb_tk_70:tk Tryz.prog 70=TK.other:=by kernel_rfl
@[go_sem] theorem tb_loadK_70:a0o Tryz.prog 70=some (true,2):=by kernel_rfl
@[go_sem] theorem tb_zeroK_70:a0q Tryz.prog 70=some [Value.slice none 0 0,Value.slice none 0 0]:=by kernel_rfl
@[go_sem] theorem tb_bytesK_70:a0g Tryz.prog 70=some 48:=by kernel_rfl
@[go_sem] theorem tb_placesK_70:a0y Tryz.prog 70=some [(0,1),(1,1)]:=by kernel_rfl
@[go_sem] theorem tb_byteEl_70:a0h Tryz.prog 70=false:=by kernel_rfl
@[go_sem] theorem tb_fieldK_70_0:a0u Tryz.prog 70 0=some (0,false,1):=by kernel_rfl
@[go_sem] theorem tb_fieldK_70_1:a0u Tryz.prog 70 1=some (1,false,1):=by kernel_rfl
@[go_sem] theorem tb_tk_71:tk Tryz.prog 71=TK.other:=by kernel_rfl
@[go_sem] theorem tb_loadK_71:a0o Tryz.prog 71=some (false,1):=by kernel_rfl
@[go_sem] theorem tb_zeroK_71:a0q Tryz.prog 71=some [Value.tuple { toList:=[Value.agg { toList:=[Value.slice none 0 0,Value.slice none 0 0] },Value.int IntKind.i64 0] }]:=by kernel_rfl
@[go_sem] theorem tb_bytesK_71:a0g Tryz.prog 71=some 0:=by kernel_rfl
@[go_sem] theorem tb_byteEl_71:a0h Tryz.prog 71=false:=by kernel_rfl
@[go_sem] theorem tb_tk_77:tk Tryz.prog 77=TK.other:=by kernel_rfl
@[go_sem] theorem tb_loadK_77:a0o Tryz.prog 77=some (true,3):=by kernel_rfl
@[go_sem] theorem tb_zeroK_77:a0q Tryz.prog 77=some [Value.int IntKind.i64 0,Value.int IntKind.i64 0,Value.slice none 0 0]:=by kernel_rfl
@[go_sem] theorem tb_bytesK_77:a0g Tryz.prog 77=some 40:=by kernel_rfl
@[go_sem] theorem tb_placesK_77:a0y Tryz.prog 77=some [(0,1),(1,1),(2,1)]:=by kernel_rfl
@[go_sem] theorem tb_byteEl_77:a0h Tryz.prog 77=false:=by kernel_rfl
@[go_sem] theorem tb_fieldK_77_0:a0u Tryz.prog 77 0=some (0,false,1):=by kernel_rfl
@[go_sem] theorem tb_fieldK_77_1:a0u Tryz.prog 77 1=some (1,false,1):=by kernel_rfl
@[go_sem] theorem tb_fieldK_77_2:a0u Tryz.prog 77 2=some (2,false,1):=by kernel_rfl
@[go_sem] theorem tb_tk_79:tk Tryz.prog 79=TK.slc:=by kernel_rfl
@[go_sem] theorem tb_loadK_79:a0o Tryz.prog 79=some (false,1):=by kernel_rfl
@[go_sem] theorem tb_zeroK_79:a0q Tryz.prog 79=some [Value.slice none 0 0]:=by kernel_rfl
@[go_sem] theorem tb_bytesK_79:a0g Tryz.prog 79=some 24:=by kernel_rfl
@[go_sem] theorem a9d:a0t Tryz.prog 79=some (5,1):=by kernel_rfl
@[go_sem] theorem tb_arrElem_79:a1z Tryz.prog 79=none:=by kernel_rfl
@[go_sem] theorem tb_byteEl_79:a0h Tryz.prog 79=true:=by kernel_rfl
@[go_sem] theorem tb_tk_84:tk Tryz.prog 84=TK.other:=by kernel_rfl
@[go_sem] theorem tb_loadK_84:a0o Tryz.prog 84=some (true,3):=by kernel_rfl
@[go_sem] theorem tb_zeroK_84:a0q Tryz.prog 84=some [Value.int IntKind.i64 0,Value.int IntKind.i64 0,Value.int IntKind.i64 0]:=by kernel_rfl
@[go_sem] theorem tb_bytesK_84:a0g Tryz.prog 84=some 24:=by kernel_rfl
@[go_sem] theorem tb_placesK_84:a0y Tryz.prog 84=some [(0,1),(1,1),(2,1)]:=by kernel_rfl
@[go_sem] theorem tb_byteEl_84:a0h Tryz.prog 84=false:=by kernel_rfl
@[go_sem] theorem tb_flatK_84:a5s Tryz.prog 84=some [TypeDesc.int IntKind.i64,TypeDesc.int IntKind.i64,TypeDesc.int IntKind.i64]:=by kernel_rfl
@[go_sem] theorem tb_fieldK_84_0:a0u Tryz.prog 84 0=some (0,false,1):=by kernel_rfl
@[go_sem] theorem tb_fieldK_84_1:a0u Tryz.prog 84 1=some (1,false,1):=by kernel_rfl
@[go_sem] theorem tb_fieldK_84_2:a0u Tryz.prog 84 2=some (2,false,1):=by kernel_rfl
@[go_sem] theorem tb_tk_87:tk Tryz.prog 87=TK.other:=by kernel_rfl
@[go_sem] theorem tb_loadK_87:a0o Tryz.prog 87=some (true,6):=by kernel_rfl
@[go_sem] theorem tb_zeroK_87:a0q Tryz.prog 87=some [Value.int IntKind.i64 0,Value.int IntKind.i64 0,Value.int IntKind.i64 0,Value.string ByteArray.empty,Value.string ByteArray.empty,Value.string ByteArray.empty]:=by kernel_rfl
@[go_sem] theorem tb_bytesK_87:a0g Tryz.prog 87=some 72:=by kernel_rfl
@[go_sem] theorem tb_placesK_87:a0y Tryz.prog 87=some [(0,3),(3,1),(4,1),(5,1)]:=by kernel_rfl
@[go_sem] theorem tb_byteEl_87:a0h Tryz.prog 87=false:=by kernel_rfl
@[go_sem] theorem tb_flatK_87:a5s Tryz.prog 87=some [TypeDesc.int IntKind.i64,TypeDesc.int IntKind.i64,TypeDesc.int IntKind.i64,TypeDesc.string,TypeDesc.string,TypeDesc.string]:=by kernel_rfl
@[go_sem] theorem tb_fieldK_87_0:a0u Tryz.prog 87 0=some (0,true,3):=by kernel_rfl
@[go_sem] theorem tb_fieldK_87_1:a0u Tryz.prog 87 1=some (3,false,1):=by kernel_rfl
@[go_sem] theorem tb_fieldK_87_2:a0u Tryz.prog 87 2=some (4,false,1):=by kernel_rfl
@[go_sem] theorem tb_fieldK_87_3:a0u Tryz.prog 87 3=some (5,false,1):=by kernel_rfl
@[go_sem] theorem tb_tk_92:tk Tryz.prog 92=TK.other:=by kernel_rfl
@[go_sem] theorem tb_loadK_92:a0o Tryz.prog 92=some (false,1):=by kernel_rfl
@[go_sem] theorem tb_zeroK_92:a0q Tryz.prog 92=some [Value.tuple { toList:=[Value.int IntKind.i64 0,Value.int IntKind.i64 0] }]:=by kernel_rfl
@[go_sem] theorem tb_bytesK_92:a0g Tryz.prog 92=some 0:=by kernel_rfl
@[go_sem] theorem tb_byteEl_92:a0h Tryz.prog 92=false:=by kernel_rfl
@[go_sem] theorem tb_tk_98:tk Tryz.prog 98=TK.other:=by kernel_rfl
@[go_sem] theorem tb_loadK_98:a0o Tryz.prog 98=some (true,2):=by kernel_rfl
@[go_sem] theorem tb_zeroK_98:a0q Tryz.prog 98=some [Value.string ByteArray.empty,Value.int IntKind.u8 0]:=by kernel_rfl
@[go_sem] theorem tb_bytesK_98:a0g Tryz.prog 98=some 24:=by kernel_rfl
@[go_sem] theorem tb_placesK_98:a0y Tryz.prog 98=some [(0,1),(1,1)]:=by kernel_rfl
@[go_sem] theorem tb_byteEl_98:a0h Tryz.prog 98=false:=by kernel_rfl
@[go_sem] theorem tb_flatK_98:a5s Tryz.prog 98=some [TypeDesc.string,TypeDesc.int IntKind.u8]:=by kernel_rfl
@[go_sem] theorem tb_fieldK_98_0:a0u Tryz.prog 98 0=some (0,false,1):=by kernel_rfl
@[go_sem] theorem tb_fieldK_98_1:a0u Tryz.prog 98 1=some (1,false,1):=by kernel_rfl
@[go_sem] theorem tb_tk_113:tk Tryz.prog 113=TK.slc:=by kernel_rfl
@[go_sem] theorem tb_loadK_113:a0o Tryz.prog 113=some (false,1):=by kernel_rfl
@[go_sem] theorem tb_zeroK_113:a0q Tryz.prog 113=some [Value.slice none 0 0]:=by kernel_rfl
@[go_sem] theorem tb_bytesK_113:a0g Tryz.prog 113=some 24:=by kernel_rfl
@[go_sem] theorem tb_sliceElem_113:a0t Tryz.prog 113=some (32,1):=by kernel_rfl
@[go_sem] theorem tb_arrElem_113:a1z Tryz.prog 113=none:=by kernel_rfl
@[go_sem] theorem tb_byteEl_113:a0h Tryz.prog 113=false:=by kernel_rfl
@[go_sem] theorem tb_tk_115:tk Tryz.prog 115=TK.other:=by kernel_rfl
@[go_sem] theorem tb_loadK_115:a0o Tryz.prog 115=some (true,2):=by kernel_rfl
@[go_sem] theorem tb_zeroK_115:a0q Tryz.prog 115=some [Value.int IntKind.i64 0,Value.slice none 0 0]:=by kernel_rfl
@[go_sem] theorem tb_bytesK_115:a0g Tryz.prog 115=some 32:=by kernel_rfl
@[go_sem] theorem tb_placesK_115:a0y Tryz.prog 115=some [(0,1),(1,1)]:=by kernel_rfl
@[go_sem] theorem tb_byteEl_115:a0h Tryz.prog 115=false:=by kernel_rfl
@[go_sem] theorem tb_fieldK_115_0:a0u Tryz.prog 115 0=some (0,false,1):=by kernel_rfl
@[go_sem] theorem tb_fieldK_115_1:a0u Tryz.prog 115 1=some (1,false,1):=by kernel_rfl
@[go_sem] theorem tb_tk_117:tk Tryz.prog 117=TK.mp:=by kernel_rfl
@[go_sem] theorem tb_loadK_117:a0o Tryz.prog 117=some (false,1):=by kernel_rfl
@[go_sem] theorem tb_zeroK_117:a0q Tryz.prog 117=some [Value.map none]:=by kernel_rfl
@[go_sem] theorem tb_bytesK_117:a0g Tryz.prog 117=some 8:=by kernel_rfl
@[go_sem] theorem tb_byteEl_117:a0h Tryz.prog 117=false:=by kernel_rfl
@[go_sem] theorem tb_mapK_117:c1d Tryz.prog 117=some (KD.int IntKind.i64,V.v (Value.bool false)):=by kernel_rfl
@[go_sem] theorem tb_tk_119:tk Tryz.prog 119=TK.other:=by kernel_rfl
@[go_sem] theorem tb_loadK_119:a0o Tryz.prog 119=some (false,1):=by kernel_rfl
@[go_sem] theorem tb_zeroK_119:a0q Tryz.prog 119=some [Value.nilFunc]:=by kernel_rfl
@[go_sem] theorem tb_bytesK_119:a0g Tryz.prog 119=some 8:=by kernel_rfl
@[go_sem] theorem tb_byteEl_119:a0h Tryz.prog 119=false:=by kernel_rfl
@[go_sem] theorem tb_tk_124:tk Tryz.prog 124=TK.ptr:=by kernel_rfl
@[go_sem] theorem tb_loadK_124:a0o Tryz.prog 124=some (false,1):=by kernel_rfl
@[go_sem] theorem tb_zeroK_124:a0q Tryz.prog 124=some [Value.pointer none]:=by kernel_rfl
@[go_sem] theorem tb_bytesK_124:a0g Tryz.prog 124=some 8:=by kernel_rfl
@[go_sem] theorem tb_byteEl_124:a0h Tryz.prog 124=false:=by kernel_rfl
@[go_sem] theorem tb_tk_126:tk Tryz.prog 126=TK.other:=by kernel_rfl
@[go_sem] theorem tb_loadK_126:a0o Tryz.prog 126=some (true,2):=by kernel_rfl
@[go_sem] theorem tb_zeroK_126:a0q Tryz.prog 126=some [Value.pointer none,Value.slice none 0 0]:=by kernel_rfl
@[go_sem] theorem tb_bytesK_126:a0g Tryz.prog 126=some 32:=by kernel_rfl
@[go_sem] theorem tb_placesK_126:a0y Tryz.prog 126=some [(0,1),(1,1)]:=by kernel_rfl
@[go_sem] theorem tb_byteEl_126:a0h Tryz.prog 126=false:=by kernel_rfl
@[go_sem] theorem tb_fieldK_126_0:a0u Tryz.prog 126 0=some (0,false,1):=by kernel_rfl
@[go_sem] theorem tb_fieldK_126_1:a0u Tryz.prog 126 1=some (1,false,1):=by kernel_rfl
@[go_sem] theorem tb_tk_128:tk Tryz.prog 128=TK.other:=by kernel_rfl
@[go_sem] theorem tb_loadK_128:a0o Tryz.prog 128=some (false,1):=by kernel_rfl
@[go_sem] theorem tb_zeroK_128:a0q Tryz.prog 128=some [Value.nilIface]:=by kernel_rfl
@[go_sem] theorem tb_bytesK_128:a0g Tryz.prog 128=some 16:=by kernel_rfl
@[go_sem] theorem tb_byteEl_128:a0h Tryz.prog 128=false:=by kernel_rfl
@[go_sem] theorem tb_tk_129:tk Tryz.prog 129=TK.other:=by kernel_rfl
@[go_sem] theorem tb_loadK_129:a0o Tryz.prog 129=some (false,1):=by kernel_rfl
@[go_sem] theorem tb_zeroK_129:a0q Tryz.prog 129=some [Value.tuple { toList:=[Value.int IntKind.i64 0,Value.nilIface] }]:=by kernel_rfl
@[go_sem] theorem tb_bytesK_129:a0g Tryz.prog 129=some 0:=by kernel_rfl
@[go_sem] theorem tb_byteEl_129:a0h Tryz.prog 129=false:=by kernel_rfl
@[go_sem] theorem tb_tk_134:tk Tryz.prog 134=TK.other:=by kernel_rfl
@[go_sem] theorem tb_loadK_134:a0o Tryz.prog 134=some (false,1):=by kernel_rfl
@[go_sem] theorem tb_zeroK_134:a0q Tryz.prog 134=some [Value.nilFunc]:=by kernel_rfl
@[go_sem] theorem tb_bytesK_134:a0g Tryz.prog 134=some 8:=by kernel_rfl
@[go_sem] theorem tb_byteEl_134:a0h Tryz.prog 134=false:=by kernel_rfl
@[go_sem] theorem tb_tk_135:tk Tryz.prog 135=TK.other:=by kernel_rfl
@[go_sem] theorem tb_loadK_135:a0o Tryz.prog 135=some (false,1):=by kernel_rfl
@[go_sem] theorem tb_zeroK_135:a0q Tryz.prog 135=some [Value.nilFunc]:=by kernel_rfl
@[go_sem] theorem tb_bytesK_135:a0g Tryz.prog 135=some 8:=by kernel_rfl
@[go_sem] theorem tb_byteEl_135:a0h Tryz.prog 135=false:=by kernel_rfl
@[go_sem] theorem tb_tk_138:tk Tryz.prog 138=TK.ptr:=by kernel_rfl
@[go_sem] theorem tb_loadK_138:a0o Tryz.prog 138=some (false,1):=by kernel_rfl
@[go_sem] theorem tb_zeroK_138:a0q Tryz.prog 138=some [Value.pointer none]:=by kernel_rfl
@[go_sem] theorem tb_bytesK_138:a0g Tryz.prog 138=some 8:=by kernel_rfl
@[go_sem] theorem tb_byteEl_138:a0h Tryz.prog 138=false:=by kernel_rfl
@[go_sem] theorem tb_tk_140:tk Tryz.prog 140=TK.ptr:=by kernel_rfl
@[go_sem] theorem tb_loadK_140:a0o Tryz.prog 140=some (false,1):=by kernel_rfl
@[go_sem] theorem tb_zeroK_140:a0q Tryz.prog 140=some [Value.pointer none]:=by kernel_rfl
@[go_sem] theorem tb_bytesK_140:a0g Tryz.prog 140=some 8:=by kernel_rfl
@[go_sem] theorem tb_byteEl_140:a0h Tryz.prog 140=false:=by kernel_rfl
@[go_sem] theorem tb_tk_145:tk Tryz.prog 145=TK.other:=by kernel_rfl
@[go_sem] theorem tb_loadK_145:a0o Tryz.prog 145=some (true,1):=by kernel_rfl
@[go_sem] theorem tb_zeroK_145:a0q Tryz.prog 145=some [Value.int IntKind.i64 0]:=by kernel_rfl
@[go_sem] theorem tb_bytesK_145:a0g Tryz.prog 145=some 8:=by kernel_rfl
@[go_sem] theorem tb_placesK_145:a0y Tryz.prog 145=some [(0,1)]:=by kernel_rfl
@[go_sem] theorem tb_byteEl_145:a0h Tryz.prog 145=false:=by kernel_rfl
@[go_sem] theorem tb_flatK_145:a5s Tryz.prog 145=some [TypeDesc.int IntKind.i64]:=by kernel_rfl
@[go_sem] theorem tb_fieldK_145_0:a0u Tryz.prog 145 0=some (0,false,1):=by kernel_rfl
@[go_sem] theorem tb_tk_146:tk Tryz.prog 146=TK.other:=by kernel_rfl
@[go_sem] theorem tb_loadK_146:a0o Tryz.prog 146=some (false,1):=by kernel_rfl
@[go_sem] theorem tb_zeroK_146:a0q Tryz.prog 146=some [Value.nilFunc]:=by kernel_rfl
@[go_sem] theorem tb_bytesK_146:a0g Tryz.prog 146=some 8:=by kernel_rfl
@[go_sem] theorem tb_byteEl_146:a0h Tryz.prog 146=false:=by kernel_rfl
@[go_sem] theorem tb_tk_148:tk Tryz.prog 148=TK.other:=by kernel_rfl
@[go_sem] theorem tb_loadK_148:a0o Tryz.prog 148=some (true,5):=by kernel_rfl
@[go_sem] theorem tb_zeroK_148:a0q Tryz.prog 148=some [Value.int IntKind.i64 0,Value.int IntKind.i64 0,Value.int IntKind.i64 0,Value.int IntKind.u8 0,Value.string ByteArray.empty]:=by kernel_rfl
@[go_sem] theorem tb_bytesK_148:a0g Tryz.prog 148=some 48:=by kernel_rfl
@[go_sem] theorem tb_placesK_148:a0y Tryz.prog 148=some [(0,3),(3,1),(4,1)]:=by kernel_rfl
@[go_sem] theorem tb_byteEl_148:a0h Tryz.prog 148=false:=by kernel_rfl
@[go_sem] theorem tb_flatK_148:a5s Tryz.prog 148=some [TypeDesc.int IntKind.i64,TypeDesc.int IntKind.i64,TypeDesc.int IntKind.i64,TypeDesc.int IntKind.u8,TypeDesc.string]:=by kernel_rfl
@[go_sem] theorem tb_fieldK_148_0:a0u Tryz.prog 148 0=some (0,true,3):=by kernel_rfl
@[go_sem] theorem tb_fieldK_148_1:a0u Tryz.prog 148 1=some (3,false,1):=by kernel_rfl
@[go_sem] theorem tb_fieldK_148_2:a0u Tryz.prog 148 2=some (4,false,1):=by kernel_rfl
@[go_sem] theorem tb_tk_152:tk Tryz.prog 152=TK.other:=by kernel_rfl
@[go_sem] theorem tb_loadK_152:a0o Tryz.prog 152=some (true,4):=by kernel_rfl
@[go_sem] theorem tb_zeroK_152:a0q Tryz.prog 152=some [Value.string ByteArray.empty,Value.string ByteArray.empty,Value.string ByteArray.empty,Value.string ByteArray.empty]:=by kernel_rfl
@[go_sem] theorem tb_bytesK_152:a0g Tryz.prog 152=some 64:=by kernel_rfl
@[go_sem] theorem tb_sliceElem_152:a0t Tryz.prog 152=none:=by kernel_rfl
@[go_sem] theorem tb_arrElem_152:a1z Tryz.prog 152=some (4,1):=by kernel_rfl
@[go_sem] theorem tb_placesK_152:a0y Tryz.prog 152=some [(0,1),(1,1),(2,1),(3,1),(4,1),(5,1),(6,1),(7,1)]:=by kernel_rfl
@[go_sem] theorem tb_byteEl_152:a0h Tryz.prog 152=false:=by kernel_rfl
@[go_sem] theorem tb_flatK_152:a5s Tryz.prog 152=some [TypeDesc.string,TypeDesc.string,TypeDesc.string,TypeDesc.string]:=by kernel_rfl
@[go_sem] theorem tb_arrLoad_152:a3b Tryz.prog 152=some (4,false,1):=by kernel_rfl
@[go_sem] theorem tb_tk_158:tk Tryz.prog 158=TK.ptr:=by kernel_rfl
@[go_sem] theorem tb_loadK_158:a0o Tryz.prog 158=some (false,1):=by kernel_rfl
@[go_sem] theorem tb_zeroK_158:a0q Tryz.prog 158=some [Value.pointer none]:=by kernel_rfl
@[go_sem] theorem tb_bytesK_158:a0g Tryz.prog 158=some 8:=by kernel_rfl
@[go_sem] theorem tb_byteEl_158:a0h Tryz.prog 158=false:=by kernel_rfl
@[go_sem] theorem tb_tk_159:tk Tryz.prog 159=TK.other:=by kernel_rfl
@[go_sem] theorem tb_loadK_159:a0o Tryz.prog 159=some (false,1):=by kernel_rfl
@[go_sem] theorem tb_zeroK_159:a0q Tryz.prog 159=some [Value.tuple { toList:=[Value.pointer none,Value.int IntKind.i64 0] }]:=by kernel_rfl
@[go_sem] theorem tb_bytesK_159:a0g Tryz.prog 159=some 0:=by kernel_rfl
@[go_sem] theorem tb_byteEl_159:a0h Tryz.prog 159=false:=by kernel_rfl
@[go_sem] theorem tb_tk_166:tk Tryz.prog 166=TK.other:=by kernel_rfl
@[go_sem] theorem tb_loadK_166:a0o Tryz.prog 166=some (true,3):=by kernel_rfl
@[go_sem] theorem tb_zeroK_166:a0q Tryz.prog 166=some [Value.string ByteArray.empty,Value.string ByteArray.empty,Value.int IntKind.i64 0]:=by kernel_rfl
@[go_sem] theorem tb_bytesK_166:a0g Tryz.prog 166=some 40:=by kernel_rfl
@[go_sem] theorem tb_placesK_166:a0y Tryz.prog 166=some [(0,1),(1,1),(2,1)]:=by kernel_rfl
@[go_sem] theorem tb_byteEl_166:a0h Tryz.prog 166=false:=by kernel_rfl
@[go_sem] theorem tb_flatK_166:a5s Tryz.prog 166=some [TypeDesc.string,TypeDesc.string,TypeDesc.int IntKind.i64]:=by kernel_rfl
@[go_sem] theorem tb_fieldK_166_0:a0u Tryz.prog 166 0=some (0,false,1):=by kernel_rfl
@[go_sem] theorem tb_fieldK_166_1:a0u Tryz.prog 166 1=some (1,false,1):=by kernel_rfl
@[go_sem] theorem tb_fieldK_166_2:a0u Tryz.prog 166 2=some (2,false,1):=by kernel_rfl
@[go_sem] theorem tb_tk_168:tk Tryz.prog 168=TK.other:=by kernel_rfl
@[go_sem] theorem tb_loadK_168:a0o Tryz.prog 168=some (true,1):=by kernel_rfl
@[go_sem] theorem tb_zeroK_168:a0q Tryz.prog 168=some [Value.slice none 0 0]:=by kernel_rfl
@[go_sem] theorem tb_bytesK_168:a0g Tryz.prog 168=some 24:=by kernel_rfl
@[go_sem] theorem tb_placesK_168:a0y Tryz.prog 168=some [(0,1)]:=by kernel_rfl
@[go_sem] theorem tb_byteEl_168:a0h Tryz.prog 168=false:=by kernel_rfl
@[go_sem] theorem tb_fieldK_168_0:a0u Tryz.prog 168 0=some (0,false,1):=by kernel_rfl
@[go_sem] theorem tb_tk_171:tk Tryz.prog 171=TK.other:=by kernel_rfl
@[go_sem] theorem tb_loadK_171:a0o Tryz.prog 171=some (false,1):=by kernel_rfl
@[go_sem] theorem tb_zeroK_171:a0q Tryz.prog 171=some [Value.nilFunc]:=by kernel_rfl
@[go_sem] theorem tb_bytesK_171:a0g Tryz.prog 171=some 8:=by kernel_rfl
@[go_sem] theorem tb_byteEl_171:a0h Tryz.prog 171=false:=by kernel_rfl
@[go_sem] theorem tb_tk_174:tk Tryz.prog 174=TK.other:=by kernel_rfl
@[go_sem] theorem tb_loadK_174:a0o Tryz.prog 174=some (true,3):=by kernel_rfl
@[go_sem] theorem tb_zeroK_174:a0q Tryz.prog 174=some [Value.string ByteArray.empty,Value.nilFunc,Value.nilFunc]:=by kernel_rfl
@[go_sem] theorem tb_bytesK_174:a0g Tryz.prog 174=some 32:=by kernel_rfl
@[go_sem] theorem tb_placesK_174:a0y Tryz.prog 174=some [(0,1),(1,1),(2,1)]:=by kernel_rfl
@[go_sem] theorem tb_byteEl_174:a0h Tryz.prog 174=false:=by kernel_rfl
@[go_sem] theorem tb_fieldK_174_0:a0u Tryz.prog 174 0=some (0,false,1):=by kernel_rfl
@[go_sem] theorem tb_fieldK_174_1:a0u Tryz.prog 174 1=some (1,false,1):=by kernel_rfl
@[go_sem] theorem tb_fieldK_174_2:a0u Tryz.prog 174 2=some (2,false,1):=by kernel_rfl
@[go_sem] theorem tb_tk_175:tk Tryz.prog 175=TK.other:=by kernel_rfl
@[go_sem] theorem tb_loadK_175:a0o Tryz.prog 175=some (true,15):=by kernel_rfl
@[go_sem] theorem tb_zeroK_175:a0q Tryz.prog 175=some [Value.string ByteArray.empty,Value.nilFunc,Value.nilFunc,Value.string ByteArray.empty,Value.nilFunc,Value.nilFunc,Value.string ByteArray.empty,Value.nilFunc,Value.nilFunc,Value.string ByteArray.empty,Value.nilFunc,Value.nilFunc,Value.string ByteArray.empty,Value.nilFunc,Value.nilFunc]:=by kernel_rfl
@[go_sem] theorem tb_bytesK_175:a0g Tryz.prog 175=some 160:=by kernel_rfl
@[go_sem] theorem tb_sliceElem_175:a0t Tryz.prog 175=none:=by kernel_rfl
@[go_sem] theorem tb_arrElem_175:a1z Tryz.prog 175=some (5,3):=by kernel_rfl
@[go_sem] theorem tb_placesK_175:a0y Tryz.prog 175=some [(0,3),(3,3),(6,3),(9,3),(12,3),(15,3),(18,3),(21,3)]:=by kernel_rfl
@[go_sem] theorem tb_byteEl_175:a0h Tryz.prog 175=false:=by kernel_rfl
@[go_sem] theorem tb_arrLoad_175:a3b Tryz.prog 175=some (5,true,3):=by kernel_rfl
@[go_sem] theorem tb_tk_178:tk Tryz.prog 178=TK.other:=by kernel_rfl
@[go_sem] theorem tb_loadK_178:a0o Tryz.prog 178=some (true,9):=by kernel_rfl
@[go_sem] theorem tb_zeroK_178:a0q Tryz.prog 178=some [Value.int IntKind.i64 0,Value.int IntKind.u8 0,Value.string ByteArray.empty,Value.int IntKind.i64 0,Value.int IntKind.i64 0,Value.int IntKind.i64 0,Value.string ByteArray.empty,Value.int IntKind.u8 0,Value.int IntKind.i64 0]:=by kernel_rfl
@[go_sem] theorem tb_bytesK_178:a0g Tryz.prog 178=some 88:=by kernel_rfl
@[go_sem] theorem tb_placesK_178:a0y Tryz.prog 178=some [(0,1),(1,1),(2,1),(3,3),(6,2),(8,1)]:=by kernel_rfl
@[go_sem] theorem tb_byteEl_178:a0h Tryz.prog 178=false:=by kernel_rfl
@[go_sem] theorem tb_flatK_178:a5s Tryz.prog 178=some [TypeDesc.int IntKind.i64,TypeDesc.int IntKind.u8,TypeDesc.string,TypeDesc.int IntKind.i64,TypeDesc.int IntKind.i64,TypeDesc.int IntKind.i64,TypeDesc.string,TypeDesc.int IntKind.u8,TypeDesc.int IntKind.i64]:=by kernel_rfl
@[go_sem] theorem tb_fieldK_178_0:a0u Tryz.prog 178 0=some (0,false,1):=by kernel_rfl
@[go_sem] theorem tb_fieldK_178_1:a0u Tryz.prog 178 1=some (1,false,1):=by kernel_rfl
@[go_sem] theorem tb_fieldK_178_2:a0u Tryz.prog 178 2=some (2,false,1):=by kernel_rfl
@[go_sem] theorem tb_fieldK_178_3:a0u Tryz.prog 178 3=some (3,true,3):=by kernel_rfl
@[go_sem] theorem tb_fieldK_178_4:a0u Tryz.prog 178 4=some (6,true,2):=by kernel_rfl
@[go_sem] theorem tb_fieldK_178_5:a0u Tryz.prog 178 5=some (8,false,1):=by kernel_rfl
@[go_sem] theorem tb_tk_181:tk Tryz.prog 181=TK.other:=by kernel_rfl
@[go_sem] theorem tb_loadK_181:a0o Tryz.prog 181=some (false,1):=by kernel_rfl
@[go_sem] theorem tb_zeroK_181:a0q Tryz.prog 181=some [Value.nilFunc]:=by kernel_rfl
@[go_sem] theorem tb_bytesK_181:a0g Tryz.prog 181=some 8:=by kernel_rfl
@[go_sem] theorem tb_byteEl_181:a0h Tryz.prog 181=false:=by kernel_rfl
@[go_sem] theorem tb_tk_182:tk Tryz.prog 182=TK.other:=by kernel_rfl
@[go_sem] theorem tb_loadK_182:a0o Tryz.prog 182=some (false,1):=by kernel_rfl
@[go_sem] theorem tb_zeroK_182:a0q Tryz.prog 182=some [Value.nilFunc]:=by kernel_rfl
@[go_sem] theorem tb_bytesK_182:a0g Tryz.prog 182=some 8:=by kernel_rfl
@[go_sem] theorem tb_byteEl_182:a0h Tryz.prog 182=false:=by kernel_rfl
@[go_sem] theorem tb_tk_185:tk Tryz.prog 185=TK.other:=by kernel_rfl
@[go_sem] theorem tb_loadK_185:a0o Tryz.prog 185=some (false,1):=by kernel_rfl
@[go_sem] theorem tb_zeroK_185:a0q Tryz.prog 185=some [Value.nilFunc]:=by kernel_rfl
@[go_sem] theorem tb_bytesK_185:a0g Tryz.prog 185=some 8:=by kernel_rfl
@[go_sem] theorem tb_byteEl_185:a0h Tryz.prog 185=false:=by kernel_rfl
@[go_sem] theorem tb_tk_186:tk Tryz.prog 186=TK.ptr:=by kernel_rfl
@[go_sem] theorem tb_loadK_186:a0o Tryz.prog 186=some (false,1):=by kernel_rfl
@[go_sem] theorem tb_zeroK_186:a0q Tryz.prog 186=some [Value.pointer none]:=by kernel_rfl
@[go_sem] theorem tb_bytesK_186:a0g Tryz.prog 186=some 8:=by kernel_rfl
@[go_sem] theorem tb_byteEl_186:a0h Tryz.prog 186=false:=by kernel_rfl
@[go_sem] theorem tb_tk_187:tk Tryz.prog 187=TK.other:=by kernel_rfl
@[go_sem] theorem tb_loadK_187:a0o Tryz.prog 187=some (false,1):=by kernel_rfl
@[go_sem] theorem tb_zeroK_187:a0q Tryz.prog 187=some [Value.tuple { toList:=[Value.pointer none,Value.int IntKind.i64 0] }]:=by kernel_rfl
@[go_sem] theorem tb_bytesK_187:a0g Tryz.prog 187=some 0:=by kernel_rfl
@[go_sem] theorem tb_byteEl_187:a0h Tryz.prog 187=false:=by kernel_rfl
@[go_sem] theorem tb_tk_190:tk Tryz.prog 190=TK.other:=by kernel_rfl
@[go_sem] theorem tb_loadK_190:a0o Tryz.prog 190=some (true,3):=by kernel_rfl
@[go_sem] theorem tb_zeroK_190:a0q Tryz.prog 190=some [Value.slice none 0 0,Value.slice none 0 0,Value.slice none 0 0]:=by kernel_rfl
@[go_sem] theorem tb_bytesK_190:a0g Tryz.prog 190=some 72:=by kernel_rfl
@[go_sem] theorem tb_placesK_190:a0y Tryz.prog 190=some [(0,2),(2,1)]:=by kernel_rfl
@[go_sem] theorem tb_byteEl_190:a0h Tryz.prog 190=false:=by kernel_rfl
@[go_sem] theorem tb_fieldK_190_0:a0u Tryz.prog 190 0=some (0,true,2):=by kernel_rfl
@[go_sem] theorem tb_fieldK_190_1:a0u Tryz.prog 190 1=some (2,false,1):=by kernel_rfl
@[go_sem] theorem tb_tk_194:tk Tryz.prog 194=TK.other:=by kernel_rfl
@[go_sem] theorem tb_loadK_194:a0o Tryz.prog 194=some (false,1):=by kernel_rfl
@[go_sem] theorem tb_zeroK_194:a0q Tryz.prog 194=some [Value.nilFunc]:=by kernel_rfl
@[go_sem] theorem tb_bytesK_194:a0g Tryz.prog 194=some 8:=by kernel_rfl
@[go_sem] theorem tb_byteEl_194:a0h Tryz.prog 194=false:=by kernel_rfl
@[go_sem] theorem tb_tk_213:tk Tryz.prog 213=TK.slc:=by kernel_rfl
@[go_sem] theorem tb_loadK_213:a0o Tryz.prog 213=some (false,1):=by kernel_rfl
@[go_sem] theorem tb_zeroK_213:a0q Tryz.prog 213=some [Value.slice none 0 0]:=by kernel_rfl
@[go_sem] theorem tb_bytesK_213:a0g Tryz.prog 213=some 24:=by kernel_rfl
@[go_sem] theorem tb_sliceElem_213:a0t Tryz.prog 213=some (3,1):=by kernel_rfl
@[go_sem] theorem tb_arrElem_213:a1z Tryz.prog 213=none:=by kernel_rfl
@[go_sem] theorem tb_byteEl_213:a0h Tryz.prog 213=false:=by kernel_rfl
@[go_sem] theorem tb_tk_215:tk Tryz.prog 215=TK.other:=by kernel_rfl
@[go_sem] theorem tb_loadK_215:a0o Tryz.prog 215=some (false,1):=by kernel_rfl
@[go_sem] theorem tb_zeroK_215:a0q Tryz.prog 215=some [Value.nilFunc]:=by kernel_rfl
@[go_sem] theorem tb_bytesK_215:a0g Tryz.prog 215=some 8:=by kernel_rfl
@[go_sem] theorem tb_byteEl_215:a0h Tryz.prog 215=false:=by kernel_rfl
@[go_sem] theorem tb_tk_218:tk Tryz.prog 218=TK.other:=by kernel_rfl
@[go_sem] theorem tb_loadK_218:a0o Tryz.prog 218=some (false,1):=by kernel_rfl
@[go_sem] theorem tb_zeroK_218:a0q Tryz.prog 218=some [Value.nilFunc]:=by kernel_rfl
@[go_sem] theorem tb_bytesK_218:a0g Tryz.prog 218=some 8:=by kernel_rfl
@[go_sem] theorem tb_byteEl_218:a0h Tryz.prog 218=false:=by kernel_rfl
@[go_sem] theorem tb_tk_221:tk Tryz.prog 221=TK.ptr:=by kernel_rfl
@[go_sem] theorem tb_loadK_221:a0o Tryz.prog 221=some (false,1):=by kernel_rfl
@[go_sem] theorem tb_zeroK_221:a0q Tryz.prog 221=some [Value.pointer none]:=by kernel_rfl
@[go_sem] theorem tb_bytesK_221:a0g Tryz.prog 221=some 8:=by kernel_rfl
@[go_sem] theorem tb_byteEl_221:a0h Tryz.prog 221=false:=by kernel_rfl
@[go_sem] theorem tb_tk_222:tk Tryz.prog 222=TK.other:=by kernel_rfl
@[go_sem] theorem tb_loadK_222:a0o Tryz.prog 222=some (false,1):=by kernel_rfl
@[go_sem] theorem tb_zeroK_222:a0q Tryz.prog 222=some [Value.tuple { toList:=[Value.string ByteArray.empty,Value.string ByteArray.empty,Value.bool false] }]:=by kernel_rfl
@[go_sem] theorem tb_bytesK_222:a0g Tryz.prog 222=some 0:=by kernel_rfl
@[go_sem] theorem tb_byteEl_222:a0h Tryz.prog 222=false:=by kernel_rfl
@[go_sem] theorem tb_tk_224:tk Tryz.prog 224=TK.other:=by kernel_rfl
@[go_sem] theorem tb_loadK_224:a0o Tryz.prog 224=some (false,1):=by kernel_rfl
@[go_sem] theorem tb_zeroK_224:a0q Tryz.prog 224=some [Value.nilFunc]:=by kernel_rfl
@[go_sem] theorem tb_bytesK_224:a0g Tryz.prog 224=some 8:=by kernel_rfl
@[go_sem] theorem tb_byteEl_224:a0h Tryz.prog 224=false:=by kernel_rfl
@[go_sem] theorem tb_tk_225:tk Tryz.prog 225=TK.other:=by kernel_rfl
@[go_sem] theorem tb_loadK_225:a0o Tryz.prog 225=some (false,1):=by kernel_rfl
@[go_sem] theorem tb_zeroK_225:a0q Tryz.prog 225=some [Value.tuple { toList:=[Value.slice none 0 0,Value.bool false] }]:=by kernel_rfl
@[go_sem] theorem tb_bytesK_225:a0g Tryz.prog 225=some 0:=by kernel_rfl
@[go_sem] theorem tb_byteEl_225:a0h Tryz.prog 225=false:=by kernel_rfl
@[go_sem] theorem tb_tk_227:tk Tryz.prog 227=TK.ptr:=by kernel_rfl
@[go_sem] theorem tb_loadK_227:a0o Tryz.prog 227=some (false,1):=by kernel_rfl
@[go_sem] theorem tb_zeroK_227:a0q Tryz.prog 227=some [Value.pointer none]:=by kernel_rfl
@[go_sem] theorem tb_bytesK_227:a0g Tryz.prog 227=some 8:=by kernel_rfl
@[go_sem] theorem tb_byteEl_227:a0h Tryz.prog 227=false:=by kernel_rfl
@[go_sem] theorem tb_tk_228:tk Tryz.prog 228=TK.slc:=by kernel_rfl
@[go_sem] theorem tb_loadK_228:a0o Tryz.prog 228=some (false,1):=by kernel_rfl
@[go_sem] theorem tb_zeroK_228:a0q Tryz.prog 228=some [Value.slice none 0 0]:=by kernel_rfl
@[go_sem] theorem tb_bytesK_228:a0g Tryz.prog 228=some 24:=by kernel_rfl
@[go_sem] theorem tb_sliceElem_228:a0t Tryz.prog 228=some (227,1):=by kernel_rfl
@[go_sem] theorem tb_arrElem_228:a1z Tryz.prog 228=none:=by kernel_rfl
@[go_sem] theorem tb_byteEl_228:a0h Tryz.prog 228=false:=by kernel_rfl
@[go_sem] theorem tb_tk_230:tk Tryz.prog 230=TK.other:=by kernel_rfl
@[go_sem] theorem tb_loadK_230:a0o Tryz.prog 230=some (false,1):=by kernel_rfl
@[go_sem] theorem tb_zeroK_230:a0q Tryz.prog 230=some [Value.nilFunc]:=by kernel_rfl
@[go_sem] theorem tb_bytesK_230:a0g Tryz.prog 230=some 8:=by kernel_rfl
@[go_sem] theorem tb_byteEl_230:a0h Tryz.prog 230=false:=by kernel_rfl
@[go_sem] theorem tb_tk_232:tk Tryz.prog 232=TK.mp:=by kernel_rfl
@[go_sem] theorem tb_loadK_232:a0o Tryz.prog 232=some (false,1):=by kernel_rfl
@[go_sem] theorem tb_zeroK_232:a0q Tryz.prog 232=some [Value.map none]:=by kernel_rfl
@[go_sem] theorem tb_bytesK_232:a0g Tryz.prog 232=some 8:=by kernel_rfl
@[go_sem] theorem tb_byteEl_232:a0h Tryz.prog 232=false:=by kernel_rfl
@[go_sem] theorem b5e:c1d Tryz.prog 232=some (KD.agg [TypeDesc.int IntKind.i64,TypeDesc.int IntKind.i64,TypeDesc.int IntKind.i64],V.v (Value.slice none 0 0)):=by kernel_rfl
@[go_sem] theorem tb_tk_234:tk Tryz.prog 234=TK.other:=by kernel_rfl
@[go_sem] theorem tb_loadK_234:a0o Tryz.prog 234=some (true,1):=by kernel_rfl
@[go_sem] theorem tb_zeroK_234:a0q Tryz.prog 234=some [Value.slice none 0 0]:=by kernel_rfl
@[go_sem] theorem tb_bytesK_234:a0g Tryz.prog 234=some 24:=by kernel_rfl
@[go_sem] theorem tb_placesK_234:a0y Tryz.prog 234=some [(0,1)]:=by kernel_rfl
@[go_sem] theorem tb_byteEl_234:a0h Tryz.prog 234=false:=by kernel_rfl
@[go_sem] theorem tb_fieldK_234_0:a0u Tryz.prog 234 0=some (0,true,1):=by kernel_rfl
@[go_sem] theorem tb_tk_235:tk Tryz.prog 235=TK.other:=by kernel_rfl
@[go_sem] theorem tb_loadK_235:a0o Tryz.prog 235=some (false,1):=by kernel_rfl
@[go_sem] theorem tb_zeroK_235:a0q Tryz.prog 235=some [Value.nilFunc]:=by kernel_rfl
@[go_sem] theorem tb_bytesK_235:a0g Tryz.prog 235=some 8:=by kernel_rfl
@[go_sem] theorem tb_byteEl_235:a0h Tryz.prog 235=false:=by kernel_rfl
@[go_sem] theorem tb_tk_236:tk Tryz.prog 236=TK.other:=by kernel_rfl
@[go_sem] theorem tb_loadK_236:a0o Tryz.prog 236=some (false,1):=by kernel_rfl
@[go_sem] theorem tb_zeroK_236:a0q Tryz.prog 236=some [Value.nilFunc]:=by kernel_rfl
@[go_sem] theorem tb_bytesK_236:a0g Tryz.prog 236=some 8:=by kernel_rfl
@[go_sem] theorem tb_byteEl_236:a0h Tryz.prog 236=false:=by kernel_rfl
@[go_sem] theorem tb_tk_238:tk Tryz.prog 238=TK.other:=by kernel_rfl
@[go_sem] theorem tb_loadK_238:a0o Tryz.prog 238=some (true,3):=by kernel_rfl
@[go_sem] theorem tb_zeroK_238:a0q Tryz.prog 238=some [Value.int IntKind.i64 0,Value.nilFunc,Value.nilFunc]:=by kernel_rfl
@[go_sem] theorem tb_bytesK_238:a0g Tryz.prog 238=some 24:=by kernel_rfl
@[go_sem] theorem tb_placesK_238:a0y Tryz.prog 238=some [(0,1),(1,1),(2,1)]:=by kernel_rfl
@[go_sem] theorem tb_byteEl_238:a0h Tryz.prog 238=false:=by kernel_rfl
@[go_sem] theorem tb_fieldK_238_0:a0u Tryz.prog 238 0=some (0,false,1):=by kernel_rfl
@[go_sem] theorem tb_fieldK_238_1:a0u Tryz.prog 238 1=some (1,false,1):=by kernel_rfl
@[go_sem] theorem tb_fieldK_238_2:a0u Tryz.prog 238 2=some (2,false,1):=by kernel_rfl
@[go_sem] theorem tb_tk_239:tk Tryz.prog 239=TK.other:=by kernel_rfl
@[go_sem] theorem tb_loadK_239:a0o Tryz.prog 239=some (true,12):=by kernel_rfl
@[go_sem] theorem tb_zeroK_239:a0q Tryz.prog 239=some [Value.int IntKind.i64 0,Value.nilFunc,Value.nilFunc,Value.int IntKind.i64 0,Value.nilFunc,Value.nilFunc,Value.int IntKind.i64 0,Value.nilFunc,Value.nilFunc,Value.int IntKind.i64 0,Value.nilFunc,Value.nilFunc]:=by kernel_rfl
@[go_sem] theorem tb_bytesK_239:a0g Tryz.prog 239=some 96:=by kernel_rfl
@[go_sem] theorem tb_sliceElem_239:a0t Tryz.prog 239=none:=by kernel_rfl
@[go_sem] theorem tb_arrElem_239:a1z Tryz.prog 239=some (4,3):=by kernel_rfl
@[go_sem] theorem tb_placesK_239:a0y Tryz.prog 239=some [(0,3),(3,3),(6,3),(9,3),(12,3),(15,3),(18,3),(21,3)]:=by kernel_rfl
@[go_sem] theorem tb_byteEl_239:a0h Tryz.prog 239=false:=by kernel_rfl
@[go_sem] theorem tb_arrLoad_239:a3b Tryz.prog 239=some (4,true,3):=by kernel_rfl
@[go_sem] theorem tb_tk_244:tk Tryz.prog 244=TK.other:=by kernel_rfl
@[go_sem] theorem tb_loadK_244:a0o Tryz.prog 244=some (false,1):=by kernel_rfl
@[go_sem] theorem tb_zeroK_244:a0q Tryz.prog 244=some [Value.nilFunc]:=by kernel_rfl
@[go_sem] theorem tb_bytesK_244:a0g Tryz.prog 244=some 8:=by kernel_rfl
@[go_sem] theorem tb_byteEl_244:a0h Tryz.prog 244=false:=by kernel_rfl
@[go_sem] theorem tb_tk_247:tk Tryz.prog 247=TK.other:=by kernel_rfl
@[go_sem] theorem tb_loadK_247:a0o Tryz.prog 247=some (true,5):=by kernel_rfl
@[go_sem] theorem tb_zeroK_247:a0q Tryz.prog 247=some [Value.bool false,Value.bool false,Value.bool false,Value.bool false,Value.nilFunc]:=by kernel_rfl
@[go_sem] theorem tb_bytesK_247:a0g Tryz.prog 247=some 16:=by kernel_rfl
@[go_sem] theorem tb_placesK_247:a0y Tryz.prog 247=some [(0,1),(1,1),(2,1),(3,1),(4,1)]:=by kernel_rfl
@[go_sem] theorem tb_byteEl_247:a0h Tryz.prog 247=false:=by kernel_rfl
@[go_sem] theorem tb_fieldK_247_0:a0u Tryz.prog 247 0=some (0,false,1):=by kernel_rfl
@[go_sem] theorem tb_fieldK_247_1:a0u Tryz.prog 247 1=some (1,false,1):=by kernel_rfl
@[go_sem] theorem tb_fieldK_247_2:a0u Tryz.prog 247 2=some (2,false,1):=by kernel_rfl
@[go_sem] theorem tb_fieldK_247_3:a0u Tryz.prog 247 3=some (3,false,1):=by kernel_rfl
@[go_sem] theorem tb_fieldK_247_4:a0u Tryz.prog 247 4=some (4,false,1):=by kernel_rfl
@[go_sem] theorem tb_tk_248:tk Tryz.prog 248=TK.other:=by kernel_rfl
@[go_sem] theorem tb_loadK_248:a0o Tryz.prog 248=some (true,25):=by kernel_rfl
@[go_sem] theorem tb_zeroK_248:a0q Tryz.prog 248=some [Value.bool false,Value.bool false,Value.bool false,Value.bool false,Value.nilFunc,Value.bool false,Value.bool false,Value.bool false,Value.bool false,Value.nilFunc,Value.bool false,Value.bool false,Value.bool false,Value.bool false,Value.nilFunc,Value.bool false,Value.bool false,Value.bool false,Value.bool false,Value.nilFunc,Value.bool false,Value.bool false,Value.bool false,Value.bool false,Value.nilFunc]:=by kernel_rfl
@[go_sem] theorem tb_bytesK_248:a0g Tryz.prog 248=some 80:=by kernel_rfl
@[go_sem] theorem tb_sliceElem_248:a0t Tryz.prog 248=none:=by kernel_rfl
@[go_sem] theorem tb_arrElem_248:a1z Tryz.prog 248=some (5,5):=by kernel_rfl
@[go_sem] theorem tb_placesK_248:a0y Tryz.prog 248=some [(0,5),(5,5),(10,5),(15,5),(20,5),(25,5),(30,5),(35,5)]:=by kernel_rfl
@[go_sem] theorem tb_byteEl_248:a0h Tryz.prog 248=false:=by kernel_rfl
@[go_sem] theorem tb_arrLoad_248:a3b Tryz.prog 248=some (5,true,5):=by kernel_rfl
@[go_sem] theorem tb_tk_254:tk Tryz.prog 254=TK.int IntKind.u64:=by kernel_rfl
@[go_sem] theorem tb_loadK_254:a0o Tryz.prog 254=some (false,1):=by kernel_rfl
@[go_sem] theorem tb_zeroK_254:a0q Tryz.prog 254=some [Value.int IntKind.u64 0]:=by kernel_rfl
@[go_sem] theorem tb_bytesK_254:a0g Tryz.prog 254=some 8:=by kernel_rfl
@[go_sem] theorem tb_byteEl_254:a0h Tryz.prog 254=false:=by kernel_rfl
@[go_sem] theorem tb_tk_256:tk Tryz.prog 256=TK.other:=by kernel_rfl
@[go_sem] theorem tb_loadK_256:a0o Tryz.prog 256=some (false,1):=by kernel_rfl
@[go_sem] theorem tb_zeroK_256:a0q Tryz.prog 256=some [Value.nilFunc]:=by kernel_rfl
@[go_sem] theorem tb_bytesK_256:a0g Tryz.prog 256=some 8:=by kernel_rfl
@[go_sem] theorem tb_byteEl_256:a0h Tryz.prog 256=false:=by kernel_rfl
@[go_sem] theorem tb_tk_268:tk Tryz.prog 268=TK.other:=by kernel_rfl
@[go_sem] theorem tb_loadK_268:a0o Tryz.prog 268=some (false,1):=by kernel_rfl
@[go_sem] theorem tb_zeroK_268:a0q Tryz.prog 268=some [Value.nilFunc]:=by kernel_rfl
@[go_sem] theorem tb_bytesK_268:a0g Tryz.prog 268=some 8:=by kernel_rfl
@[go_sem] theorem tb_byteEl_268:a0h Tryz.prog 268=false:=by kernel_rfl
@[go_sem] theorem tb_tk_274:tk Tryz.prog 274=TK.other:=by kernel_rfl
@[go_sem] theorem tb_loadK_274:a0o Tryz.prog 274=some (false,1):=by kernel_rfl
@[go_sem] theorem tb_zeroK_274:a0q Tryz.prog 274=some [Value.pointer none]:=by kernel_rfl
@[go_sem] theorem tb_bytesK_274:a0g Tryz.prog 274=some 8:=by kernel_rfl
@[go_sem] theorem tb_byteEl_274:a0h Tryz.prog 274=false:=by kernel_rfl
@[go_sem] theorem tb_tk_279:tk Tryz.prog 279=TK.other:=by kernel_rfl
@[go_sem] theorem tb_loadK_279:a0o Tryz.prog 279=some (true,3):=by kernel_rfl
@[go_sem] theorem tb_zeroK_279:a0q Tryz.prog 279=some [Value.int IntKind.u8 0,Value.int IntKind.i64 0,Value.int IntKind.i64 0]:=by kernel_rfl
@[go_sem] theorem tb_bytesK_279:a0g Tryz.prog 279=some 24:=by kernel_rfl
@[go_sem] theorem tb_placesK_279:a0y Tryz.prog 279=some [(0,1),(1,1),(2,1)]:=by kernel_rfl
@[go_sem] theorem tb_byteEl_279:a0h Tryz.prog 279=false:=by kernel_rfl
@[go_sem] theorem tb_flatK_279:a5s Tryz.prog 279=some [TypeDesc.int IntKind.u8,TypeDesc.int IntKind.i64,TypeDesc.int IntKind.i64]:=by kernel_rfl
@[go_sem] theorem tb_fieldK_279_0:a0u Tryz.prog 279 0=some (0,false,1):=by kernel_rfl
@[go_sem] theorem tb_fieldK_279_1:a0u Tryz.prog 279 1=some (1,false,1):=by kernel_rfl
@[go_sem] theorem tb_fieldK_279_2:a0u Tryz.prog 279 2=some (2,false,1):=by kernel_rfl
@[go_sem] theorem tb_tk_280:tk Tryz.prog 280=TK.other:=by kernel_rfl
@[go_sem] theorem tb_loadK_280:a0o Tryz.prog 280=some (true,9):=by kernel_rfl
@[go_sem] theorem tb_zeroK_280:a0q Tryz.prog 280=some [Value.int IntKind.u8 0,Value.int IntKind.i64 0,Value.int IntKind.i64 0,Value.int IntKind.u8 0,Value.int IntKind.i64 0,Value.int IntKind.i64 0,Value.int IntKind.u8 0,Value.int IntKind.i64 0,Value.int IntKind.i64 0]:=by kernel_rfl
@[go_sem] theorem tb_bytesK_280:a0g Tryz.prog 280=some 72:=by kernel_rfl
@[go_sem] theorem tb_sliceElem_280:a0t Tryz.prog 280=none:=by kernel_rfl
@[go_sem] theorem tb_arrElem_280:a1z Tryz.prog 280=some (3,3):=by kernel_rfl
@[go_sem] theorem tb_placesK_280:a0y Tryz.prog 280=some [(0,3),(3,3),(6,3),(9,3),(12,3),(15,3),(18,3),(21,3)]:=by kernel_rfl
@[go_sem] theorem tb_byteEl_280:a0h Tryz.prog 280=false:=by kernel_rfl
@[go_sem] theorem tb_flatK_280:a5s Tryz.prog 280=some [TypeDesc.int IntKind.u8,TypeDesc.int IntKind.i64,TypeDesc.int IntKind.i64,TypeDesc.int IntKind.u8,TypeDesc.int IntKind.i64,TypeDesc.int IntKind.i64,TypeDesc.int IntKind.u8,TypeDesc.int IntKind.i64,TypeDesc.int IntKind.i64]:=by kernel_rfl
@[go_sem] theorem tb_arrLoad_280:a3b Tryz.prog 280=some (3,true,3):=by kernel_rfl
@[go_sem] theorem tb_tk_281:tk Tryz.prog 281=TK.mp:=by kernel_rfl
@[go_sem] theorem tb_loadK_281:a0o Tryz.prog 281=some (false,1):=by kernel_rfl
@[go_sem] theorem tb_zeroK_281:a0q Tryz.prog 281=some [Value.map none]:=by kernel_rfl
@[go_sem] theorem tb_bytesK_281:a0g Tryz.prog 281=some 8:=by kernel_rfl
@[go_sem] theorem tb_byteEl_281:a0h Tryz.prog 281=false:=by kernel_rfl
@[go_sem] theorem tb_mapK_281:c1d Tryz.prog 281=some (KD.agg [TypeDesc.int IntKind.i64,TypeDesc.int IntKind.i64],V.v (Value.int IntKind.i64 0)):=by kernel_rfl
@[go_sem] theorem tb_tk_282:tk Tryz.prog 282=TK.other:=by kernel_rfl
@[go_sem] theorem tb_loadK_282:a0o Tryz.prog 282=some (false,1):=by kernel_rfl
@[go_sem] theorem tb_zeroK_282:a0q Tryz.prog 282=some [Value.nilFunc]:=by kernel_rfl
@[go_sem] theorem tb_bytesK_282:a0g Tryz.prog 282=some 8:=by kernel_rfl
@[go_sem] theorem tb_byteEl_282:a0h Tryz.prog 282=false:=by kernel_rfl
@[go_sem] theorem tb_tk_283:tk Tryz.prog 283=TK.other:=by kernel_rfl
@[go_sem] theorem tb_loadK_283:a0o Tryz.prog 283=some (false,1):=by kernel_rfl
@[go_sem] theorem tb_zeroK_283:a0q Tryz.prog 283=some [Value.tuple { toList:=[Value.int IntKind.i64 0,Value.bool false] }]:=by kernel_rfl
@[go_sem] theorem tb_bytesK_283:a0g Tryz.prog 283=some 0:=by kernel_rfl
@[go_sem] theorem tb_byteEl_283:a0h Tryz.prog 283=false:=by kernel_rfl
@[go_sem] theorem tb_tk_284:tk Tryz.prog 284=TK.other:=by kernel_rfl
@[go_sem] theorem tb_loadK_284:a0o Tryz.prog 284=some (true,2):=by kernel_rfl
@[go_sem] theorem tb_zeroK_284:a0q Tryz.prog 284=some [Value.int IntKind.i64 0,Value.int IntKind.i64 0]:=by kernel_rfl
@[go_sem] theorem tb_bytesK_284:a0g Tryz.prog 284=some 16:=by kernel_rfl
@[go_sem] theorem tb_sliceElem_284:a0t Tryz.prog 284=none:=by kernel_rfl
@[go_sem] theorem tb_arrElem_284:a1z Tryz.prog 284=some (2,1):=by kernel_rfl
@[go_sem] theorem tb_placesK_284:a0y Tryz.prog 284=some [(0,1),(1,1),(2,1),(3,1),(4,1),(5,1),(6,1),(7,1)]:=by kernel_rfl
@[go_sem] theorem tb_byteEl_284:a0h Tryz.prog 284=false:=by kernel_rfl
@[go_sem] theorem tb_flatK_284:a5s Tryz.prog 284=some [TypeDesc.int IntKind.i64,TypeDesc.int IntKind.i64]:=by kernel_rfl
@[go_sem] theorem tb_arrLoad_284:a3b Tryz.prog 284=some (2,false,1):=by kernel_rfl
@[go_sem] theorem tb_tk_285:tk Tryz.prog 285=TK.other:=by kernel_rfl
@[go_sem] theorem tb_loadK_285:a0o Tryz.prog 285=some (false,1):=by kernel_rfl
@[go_sem] theorem tb_zeroK_285:a0q Tryz.prog 285=some [Value.tuple { toList:=[Value.agg { toList:=[Value.int IntKind.u8 0,Value.int IntKind.i64 0,Value.int IntKind.i64 0] },Value.int IntKind.i64 0] }]:=by kernel_rfl
@[go_sem] theorem tb_bytesK_285:a0g Tryz.prog 285=some 0:=by kernel_rfl
@[go_sem] theorem tb_byteEl_285:a0h Tryz.prog 285=false:=by kernel_rfl
@[go_sem] theorem tb_tk_293:tk Tryz.prog 293=TK.int IntKind.i64:=by kernel_rfl
@[go_sem] theorem tb_loadK_293:a0o Tryz.prog 293=some (false,1):=by kernel_rfl
@[go_sem] theorem tb_zeroK_293:a0q Tryz.prog 293=some [Value.int IntKind.i64 0]:=by kernel_rfl
@[go_sem] theorem tb_bytesK_293:a0g Tryz.prog 293=some 8:=by kernel_rfl
@[go_sem] theorem tb_byteEl_293:a0h Tryz.prog 293=false:=by kernel_rfl
@[go_sem] theorem tb_tk_294:tk Tryz.prog 294=TK.other:=by kernel_rfl
@[go_sem] theorem tb_loadK_294:a0o Tryz.prog 294=some (false,1):=by kernel_rfl
@[go_sem] theorem tb_zeroK_294:a0q Tryz.prog 294=some [Value.tuple { toList:=[Value.int IntKind.i64 0,Value.int IntKind.i64 0] }]:=by kernel_rfl
@[go_sem] theorem tb_bytesK_294:a0g Tryz.prog 294=some 0:=by kernel_rfl
@[go_sem] theorem tb_byteEl_294:a0h Tryz.prog 294=false:=by kernel_rfl
@[go_sem] theorem tb_tk_300:tk Tryz.prog 300=TK.int IntKind.u32:=by kernel_rfl
@[go_sem] theorem tb_loadK_300:a0o Tryz.prog 300=some (false,1):=by kernel_rfl
@[go_sem] theorem tb_zeroK_300:a0q Tryz.prog 300=some [Value.int IntKind.u32 0]:=by kernel_rfl
@[go_sem] theorem tb_bytesK_300:a0g Tryz.prog 300=some 4:=by kernel_rfl
@[go_sem] theorem tb_byteEl_300:a0h Tryz.prog 300=false:=by kernel_rfl
@[go_sem] theorem tb_tk_302:tk Tryz.prog 302=TK.int IntKind.u64:=by kernel_rfl
@[go_sem] theorem tb_loadK_302:a0o Tryz.prog 302=some (false,1):=by kernel_rfl
@[go_sem] theorem tb_zeroK_302:a0q Tryz.prog 302=some [Value.int IntKind.u64 0]:=by kernel_rfl
@[go_sem] theorem tb_bytesK_302:a0g Tryz.prog 302=some 8:=by kernel_rfl
@[go_sem] theorem tb_byteEl_302:a0h Tryz.prog 302=false:=by kernel_rfl
@[go_sem] theorem tb_tk_323:tk Tryz.prog 323=TK.other:=by kernel_rfl
@[go_sem] theorem tb_loadK_323:a0o Tryz.prog 323=some (true,24):=by kernel_rfl
@[go_sem] theorem tb_zeroK_323:a0q Tryz.prog 323=some [Value.int IntKind.u8 0,Value.int IntKind.u8 0,Value.int IntKind.u8 0,Value.int IntKind.u8 0,Value.int IntKind.u8 0,Value.int IntKind.u8 0,Value.int IntKind.u8 0,Value.int IntKind.u8 0,Value.int IntKind.u8 0,Value.int IntKind.u8 0,Value.int IntKind.u8 0,Value.int IntKind.u8 0,Value.int IntKind.u8 0,Value.int IntKind.u8 0,Value.int IntKind.u8 0,Value.int IntKind.u8 0,Value.int IntKind.u8 0,Value.int IntKind.u8 0,Value.int IntKind.u8 0,Value.int IntKind.u8 0,Value.int IntKind.u8 0,Value.int IntKind.u8 0,Value.int IntKind.u8 0,Value.int IntKind.u8 0]:=by kernel_rfl
@[go_sem] theorem tb_bytesK_323:a0g Tryz.prog 323=some 24:=by kernel_rfl
@[go_sem] theorem tb_sliceElem_323:a0t Tryz.prog 323=none:=by kernel_rfl
@[go_sem] theorem tb_arrElem_323:a1z Tryz.prog 323=some (24,1):=by kernel_rfl
@[go_sem] theorem tb_placesK_323:a0y Tryz.prog 323=some [(0,1),(1,1),(2,1),(3,1),(4,1),(5,1),(6,1),(7,1)]:=by kernel_rfl
@[go_sem] theorem tb_byteEl_323:a0h Tryz.prog 323=false:=by kernel_rfl
@[go_sem] theorem tb_flatK_323:a5s Tryz.prog 323=some [TypeDesc.int IntKind.u8,TypeDesc.int IntKind.u8,TypeDesc.int IntKind.u8,TypeDesc.int IntKind.u8,TypeDesc.int IntKind.u8,TypeDesc.int IntKind.u8,TypeDesc.int IntKind.u8,TypeDesc.int IntKind.u8,TypeDesc.int IntKind.u8,TypeDesc.int IntKind.u8,TypeDesc.int IntKind.u8,TypeDesc.int IntKind.u8,TypeDesc.int IntKind.u8,TypeDesc.int IntKind.u8,TypeDesc.int IntKind.u8,TypeDesc.int IntKind.u8,TypeDesc.int IntKind.u8,TypeDesc.int IntKind.u8,TypeDesc.int IntKind.u8,TypeDesc.int IntKind.u8,TypeDesc.int IntKind.u8,TypeDesc.int IntKind.u8,TypeDesc.int IntKind.u8,TypeDesc.int IntKind.u8]:=by kernel_rfl
@[go_sem] theorem tb_arrLoad_323:a3b Tryz.prog 323=some (24,false,1):=by kernel_rfl
@[go_sem] theorem tb_tk_325:tk Tryz.prog 325=TK.other:=by kernel_rfl
@[go_sem] theorem tb_loadK_325:a0o Tryz.prog 325=some (false,1):=by kernel_rfl
@[go_sem] theorem tb_zeroK_325:a0q Tryz.prog 325=some [Value.tuple { toList:=[Value.slice none 0 0,Value.string ByteArray.empty] }]:=by kernel_rfl
@[go_sem] theorem tb_bytesK_325:a0g Tryz.prog 325=some 0:=by kernel_rfl
@[go_sem] theorem tb_byteEl_325:a0h Tryz.prog 325=false:=by kernel_rfl
@[go_sem] theorem tb_tk_329:tk Tryz.prog 329=TK.int IntKind.i64:=by kernel_rfl
@[go_sem] theorem tb_loadK_329:a0o Tryz.prog 329=some (false,1):=by kernel_rfl
@[go_sem] theorem tb_zeroK_329:a0q Tryz.prog 329=some [Value.int IntKind.i64 0]:=by kernel_rfl
@[go_sem] theorem tb_bytesK_329:a0g Tryz.prog 329=some 8:=by kernel_rfl
@[go_sem] theorem tb_byteEl_329:a0h Tryz.prog 329=false:=by kernel_rfl
@[go_sem] theorem tb_tk_330:tk Tryz.prog 330=TK.other:=by kernel_rfl
@[go_sem] theorem tb_loadK_330:a0o Tryz.prog 330=some (false,1):=by kernel_rfl
@[go_sem] theorem tb_zeroK_330:a0q Tryz.prog 330=some [Value.tuple { toList:=[Value.int IntKind.i64 0,Value.nilIface] }]:=by kernel_rfl
@[go_sem] theorem tb_bytesK_330:a0g Tryz.prog 330=some 0:=by kernel_rfl
@[go_sem] theorem tb_byteEl_330:a0h Tryz.prog 330=false:=by kernel_rfl
@[go_sem] theorem tb_tk_332:tk Tryz.prog 332=TK.ptr:=by kernel_rfl
@[go_sem] theorem tb_loadK_332:a0o Tryz.prog 332=some (false,1):=by kernel_rfl
@[go_sem] theorem tb_zeroK_332:a0q Tryz.prog 332=some [Value.pointer none]:=by kernel_rfl
@[go_sem] theorem tb_bytesK_332:a0g Tryz.prog 332=some 8:=by kernel_rfl
@[go_sem] theorem tb_byteEl_332:a0h Tryz.prog 332=false:=by kernel_rfl
@[go_sem] theorem tb_tk_353:tk Tryz.prog 353=TK.other:=by kernel_rfl
@[go_sem] theorem tb_loadK_353:a0o Tryz.prog 353=some (true,20):=by kernel_rfl
@[go_sem] theorem tb_zeroK_353:a0q Tryz.prog 353=some [Value.int IntKind.u64 0,Value.int IntKind.u64 0,Value.int IntKind.u64 0,Value.int IntKind.u64 0,Value.int IntKind.u64 0,Value.int IntKind.u64 0,Value.int IntKind.u64 0,Value.int IntKind.u64 0,Value.int IntKind.u64 0,Value.int IntKind.u64 0,Value.int IntKind.u64 0,Value.int IntKind.u64 0,Value.int IntKind.u64 0,Value.int IntKind.u64 0,Value.int IntKind.u64 0,Value.int IntKind.u64 0,Value.int IntKind.u64 0,Value.int IntKind.u64 0,Value.int IntKind.u64 0,Value.int IntKind.u64 0]:=by kernel_rfl
@[go_sem] theorem tb_bytesK_353:a0g Tryz.prog 353=some 160:=by kernel_rfl
@[go_sem] theorem tb_sliceElem_353:a0t Tryz.prog 353=none:=by kernel_rfl
@[go_sem] theorem tb_arrElem_353:a1z Tryz.prog 353=some (20,1):=by kernel_rfl
@[go_sem] theorem tb_placesK_353:a0y Tryz.prog 353=some [(0,1),(1,1),(2,1),(3,1),(4,1),(5,1),(6,1),(7,1)]:=by kernel_rfl
@[go_sem] theorem tb_byteEl_353:a0h Tryz.prog 353=false:=by kernel_rfl
@[go_sem] theorem tb_flatK_353:a5s Tryz.prog 353=some [TypeDesc.int IntKind.u64,TypeDesc.int IntKind.u64,TypeDesc.int IntKind.u64,TypeDesc.int IntKind.u64,TypeDesc.int IntKind.u64,TypeDesc.int IntKind.u64,TypeDesc.int IntKind.u64,TypeDesc.int IntKind.u64,TypeDesc.int IntKind.u64,TypeDesc.int IntKind.u64,TypeDesc.int IntKind.u64,TypeDesc.int IntKind.u64,TypeDesc.int IntKind.u64,TypeDesc.int IntKind.u64,TypeDesc.int IntKind.u64,TypeDesc.int IntKind.u64,TypeDesc.int IntKind.u64,TypeDesc.int IntKind.u64,TypeDesc.int IntKind.u64,TypeDesc.int IntKind.u64]:=by kernel_rfl
@[go_sem] theorem tb_arrLoad_353:a3b Tryz.prog 353=some (20,false,1):=by kernel_rfl
@[go_sem] theorem tb_tk_354:tk Tryz.prog 354=TK.other:=by kernel_rfl
@[go_sem] theorem tb_loadK_354:a0o Tryz.prog 354=some (true,65):=by kernel_rfl
@[go_sem] theorem tb_bytesK_354:a0g Tryz.prog 354=some 65:=by kernel_rfl
@[go_sem] theorem tb_sliceElem_354:a0t Tryz.prog 354=none:=by kernel_rfl
@[go_sem] theorem tb_arrElem_354:a1z Tryz.prog 354=some (65,1):=by kernel_rfl
@[go_sem] theorem tb_placesK_354:a0y Tryz.prog 354=some [(0,1),(1,1),(2,1),(3,1),(4,1),(5,1),(6,1),(7,1)]:=by kernel_rfl
@[go_sem] theorem tb_byteEl_354:a0h Tryz.prog 354=false:=by kernel_rfl
@[go_sem] theorem tb_arrLoad_354:a3b Tryz.prog 354=some (65,false,1):=by kernel_rfl
@[go_sem] theorem tb_tk_357:tk Tryz.prog 357=TK.other:=by kernel_rfl
@[go_sem] theorem tb_loadK_357:a0o Tryz.prog 357=some (false,1):=by kernel_rfl
@[go_sem] theorem tb_zeroK_357:a0q Tryz.prog 357=some [Value.tuple { toList:=[Value.int IntKind.i32 0,Value.int IntKind.i64 0] }]:=by kernel_rfl
@[go_sem] theorem tb_bytesK_357:a0g Tryz.prog 357=some 0:=by kernel_rfl
@[go_sem] theorem tb_byteEl_357:a0h Tryz.prog 357=false:=by kernel_rfl
@[go_sem] theorem tb_tk_359:tk Tryz.prog 359=TK.other:=by kernel_rfl
@[go_sem] theorem tb_loadK_359:a0o Tryz.prog 359=some (false,1):=by kernel_rfl
@[go_sem] theorem tb_zeroK_359:a0q Tryz.prog 359=some [Value.tuple { toList:=[Value.int IntKind.u64 0,Value.nilIface] }]:=by kernel_rfl
@[go_sem] theorem tb_bytesK_359:a0g Tryz.prog 359=some 0:=by kernel_rfl
@[go_sem] theorem tb_byteEl_359:a0h Tryz.prog 359=false:=by kernel_rfl
@[go_sem] theorem tb_tk_363:tk Tryz.prog 363=TK.other:=by kernel_rfl
@[go_sem] theorem tb_loadK_363:a0o Tryz.prog 363=some (true,3):=by kernel_rfl
@[go_sem] theorem tb_zeroK_363:a0q Tryz.prog 363=some [Value.string ByteArray.empty,Value.string ByteArray.empty,Value.nilIface]:=by kernel_rfl
@[go_sem] theorem tb_bytesK_363:a0g Tryz.prog 363=some 48:=by kernel_rfl
@[go_sem] theorem tb_placesK_363:a0y Tryz.prog 363=some [(0,1),(1,1),(2,1)]:=by kernel_rfl
@[go_sem] theorem tb_byteEl_363:a0h Tryz.prog 363=false:=by kernel_rfl
@[go_sem] theorem tb_fieldK_363_0:a0u Tryz.prog 363 0=some (0,false,1):=by kernel_rfl
@[go_sem] theorem tb_fieldK_363_1:a0u Tryz.prog 363 1=some (1,false,1):=by kernel_rfl
@[go_sem] theorem tb_fieldK_363_2:a0u Tryz.prog 363 2=some (2,false,1):=by kernel_rfl
@[go_sem] theorem tb_tk_372:tk Tryz.prog 372=TK.other:=by kernel_rfl
@[go_sem] theorem tb_loadK_372:a0o Tryz.prog 372=some (false,1):=by kernel_rfl
@[go_sem] theorem tb_zeroK_372:a0q Tryz.prog 372=some [Value.tuple { toList:=[Value.int IntKind.u32 0,Value.int IntKind.u32 0] }]:=by kernel_rfl
@[go_sem] theorem tb_bytesK_372:a0g Tryz.prog 372=some 0:=by kernel_rfl
@[go_sem] theorem tb_byteEl_372:a0h Tryz.prog 372=false:=by kernel_rfl
@[go_sem] theorem tb_tk_375:tk Tryz.prog 375=TK.ptr:=by kernel_rfl
@[go_sem] theorem tb_loadK_375:a0o Tryz.prog 375=some (false,1):=by kernel_rfl
@[go_sem] theorem tb_zeroK_375:a0q Tryz.prog 375=some [Value.pointer none]:=by kernel_rfl
@[go_sem] theorem tb_bytesK_375:a0g Tryz.prog 375=some 8:=by kernel_rfl
@[go_sem] theorem tb_byteEl_375:a0h Tryz.prog 375=false:=by kernel_rfl
@[go_sem] theorem tb_tk_377:tk Tryz.prog 377=TK.other:=by kernel_rfl
@[go_sem] theorem tb_loadK_377:a0o Tryz.prog 377=some (true,1):=by kernel_rfl
@[go_sem] theorem tb_zeroK_377:a0q Tryz.prog 377=some [Value.string ByteArray.empty]:=by kernel_rfl
@[go_sem] theorem tb_bytesK_377:a0g Tryz.prog 377=some 16:=by kernel_rfl
@[go_sem] theorem tb_placesK_377:a0y Tryz.prog 377=some [(0,1)]:=by kernel_rfl
@[go_sem] theorem tb_byteEl_377:a0h Tryz.prog 377=false:=by kernel_rfl
@[go_sem] theorem tb_flatK_377:a5s Tryz.prog 377=some [TypeDesc.string]:=by kernel_rfl
@[go_sem] theorem tb_fieldK_377_0:a0u Tryz.prog 377 0=some (0,false,1):=by kernel_rfl
@[go_sem] theorem tb_tk_383:tk Tryz.prog 383=TK.other:=by kernel_rfl
@[go_sem] theorem tb_loadK_383:a0o Tryz.prog 383=some (true,32):=by kernel_rfl
@[go_sem] theorem tb_zeroK_383:a0q Tryz.prog 383=some [Value.int IntKind.u8 0,Value.int IntKind.u8 0,Value.int IntKind.u8 0,Value.int IntKind.u8 0,Value.int IntKind.u8 0,Value.int IntKind.u8 0,Value.int IntKind.u8 0,Value.int IntKind.u8 0,Value.int IntKind.u8 0,Value.int IntKind.u8 0,Value.int IntKind.u8 0,Value.int IntKind.u8 0,Value.int IntKind.u8 0,Value.int IntKind.u8 0,Value.int IntKind.u8 0,Value.int IntKind.u8 0,Value.int IntKind.u8 0,Value.int IntKind.u8 0,Value.int IntKind.u8 0,Value.int IntKind.u8 0,Value.int IntKind.u8 0,Value.int IntKind.u8 0,Value.int IntKind.u8 0,Value.int IntKind.u8 0,Value.int IntKind.u8 0,Value.int IntKind.u8 0,Value.int IntKind.u8 0,Value.int IntKind.u8 0,Value.int IntKind.u8 0,Value.int IntKind.u8 0,Value.int IntKind.u8 0,Value.int IntKind.u8 0]:=by kernel_rfl
@[go_sem] theorem tb_bytesK_383:a0g Tryz.prog 383=some 32:=by kernel_rfl
@[go_sem] theorem tb_sliceElem_383:a0t Tryz.prog 383=none:=by kernel_rfl
@[go_sem] theorem tb_arrElem_383:a1z Tryz.prog 383=some (32,1):=by kernel_rfl
@[go_sem] theorem tb_placesK_383:a0y Tryz.prog 383=some [(0,1),(1,1),(2,1),(3,1),(4,1),(5,1),(6,1),(7,1)]:=by kernel_rfl
@[go_sem] theorem tb_byteEl_383:a0h Tryz.prog 383=false:=by kernel_rfl
@[go_sem] theorem tb_flatK_383:a5s Tryz.prog 383=some [TypeDesc.int IntKind.u8,TypeDesc.int IntKind.u8,TypeDesc.int IntKind.u8,TypeDesc.int IntKind.u8,TypeDesc.int IntKind.u8,TypeDesc.int IntKind.u8,TypeDesc.int IntKind.u8,TypeDesc.int IntKind.u8,TypeDesc.int IntKind.u8,TypeDesc.int IntKind.u8,TypeDesc.int IntKind.u8,TypeDesc.int IntKind.u8,TypeDesc.int IntKind.u8,TypeDesc.int IntKind.u8,TypeDesc.int IntKind.u8,TypeDesc.int IntKind.u8,TypeDesc.int IntKind.u8,TypeDesc.int IntKind.u8,TypeDesc.int IntKind.u8,TypeDesc.int IntKind.u8,TypeDesc.int IntKind.u8,TypeDesc.int IntKind.u8,TypeDesc.int IntKind.u8,TypeDesc.int IntKind.u8,TypeDesc.int IntKind.u8,TypeDesc.int IntKind.u8,TypeDesc.int IntKind.u8,TypeDesc.int IntKind.u8,TypeDesc.int IntKind.u8,TypeDesc.int IntKind.u8,TypeDesc.int IntKind.u8,TypeDesc.int IntKind.u8]:=by kernel_rfl
@[go_sem] theorem tb_arrLoad_383:a3b Tryz.prog 383=some (32,false,1):=by kernel_rfl
@[go_sem] theorem tb_tk_384:tk Tryz.prog 384=TK.other:=by kernel_rfl
@[go_sem] theorem tb_loadK_384:a0o Tryz.prog 384=some (true,64):=by kernel_rfl
@[go_sem] theorem tb_bytesK_384:a0g Tryz.prog 384=some 64:=by kernel_rfl
@[go_sem] theorem tb_sliceElem_384:a0t Tryz.prog 384=none:=by kernel_rfl
@[go_sem] theorem tb_arrElem_384:a1z Tryz.prog 384=some (64,1):=by kernel_rfl
@[go_sem] theorem tb_placesK_384:a0y Tryz.prog 384=some [(0,1),(1,1),(2,1),(3,1),(4,1),(5,1),(6,1),(7,1)]:=by kernel_rfl
@[go_sem] theorem tb_byteEl_384:a0h Tryz.prog 384=false:=by kernel_rfl
@[go_sem] theorem tb_arrLoad_384:a3b Tryz.prog 384=some (64,false,1):=by kernel_rfl
@[go_sem] theorem tb_tk_385:tk Tryz.prog 385=TK.other:=by kernel_rfl
@[go_sem] theorem tb_loadK_385:a0o Tryz.prog 385=some (true,256):=by kernel_rfl
@[go_sem] theorem tb_bytesK_385:a0g Tryz.prog 385=some 256:=by kernel_rfl
@[go_sem] theorem tb_sliceElem_385:a0t Tryz.prog 385=none:=by kernel_rfl
@[go_sem] theorem tb_arrElem_385:a1z Tryz.prog 385=some (256,1):=by kernel_rfl
@[go_sem] theorem tb_placesK_385:a0y Tryz.prog 385=some [(0,1),(1,1),(2,1),(3,1),(4,1),(5,1),(6,1),(7,1)]:=by kernel_rfl
@[go_sem] theorem tb_byteEl_385:a0h Tryz.prog 385=false:=by kernel_rfl
@[go_sem] theorem tb_arrLoad_385:a3b Tryz.prog 385=some (256,false,1):=by kernel_rfl
@[go_sem] theorem tb_tk_387:tk Tryz.prog 387=TK.other:=by kernel_rfl
@[go_sem] theorem tb_loadK_387:a0o Tryz.prog 387=some (true,2):=by kernel_rfl
@[go_sem] theorem tb_zeroK_387:a0q Tryz.prog 387=some [Value.int IntKind.u8 0,Value.int IntKind.u8 0]:=by kernel_rfl
@[go_sem] theorem tb_bytesK_387:a0g Tryz.prog 387=some 2:=by kernel_rfl
@[go_sem] theorem tb_placesK_387:a0y Tryz.prog 387=some [(0,1),(1,1)]:=by kernel_rfl
@[go_sem] theorem tb_byteEl_387:a0h Tryz.prog 387=false:=by kernel_rfl
@[go_sem] theorem tb_flatK_387:a5s Tryz.prog 387=some [TypeDesc.int IntKind.u8,TypeDesc.int IntKind.u8]:=by kernel_rfl
@[go_sem] theorem tb_fieldK_387_0:a0u Tryz.prog 387 0=some (0,false,1):=by kernel_rfl
@[go_sem] theorem tb_fieldK_387_1:a0u Tryz.prog 387 1=some (1,false,1):=by kernel_rfl
@[go_sem] theorem tb_tk_388:tk Tryz.prog 388=TK.other:=by kernel_rfl
@[go_sem] theorem tb_loadK_388:a0o Tryz.prog 388=some (true,32):=by kernel_rfl
@[go_sem] theorem tb_zeroK_388:a0q Tryz.prog 388=some [Value.int IntKind.u8 0,Value.int IntKind.u8 0,Value.int IntKind.u8 0,Value.int IntKind.u8 0,Value.int IntKind.u8 0,Value.int IntKind.u8 0,Value.int IntKind.u8 0,Value.int IntKind.u8 0,Value.int IntKind.u8 0,Value.int IntKind.u8 0,Value.int IntKind.u8 0,Value.int IntKind.u8 0,Value.int IntKind.u8 0,Value.int IntKind.u8 0,Value.int IntKind.u8 0,Value.int IntKind.u8 0,Value.int IntKind.u8 0,Value.int IntKind.u8 0,Value.int IntKind.u8 0,Value.int IntKind.u8 0,Value.int IntKind.u8 0,Value.int IntKind.u8 0,Value.int IntKind.u8 0,Value.int IntKind.u8 0,Value.int IntKind.u8 0,Value.int IntKind.u8 0,Value.int IntKind.u8 0,Value.int IntKind.u8 0,Value.int IntKind.u8 0,Value.int IntKind.u8 0,Value.int IntKind.u8 0,Value.int IntKind.u8 0]:=by kernel_rfl
@[go_sem] theorem tb_bytesK_388:a0g Tryz.prog 388=some 32:=by kernel_rfl
@[go_sem] theorem tb_sliceElem_388:a0t Tryz.prog 388=none:=by kernel_rfl
@[go_sem] theorem tb_arrElem_388:a1z Tryz.prog 388=some (16,2):=by kernel_rfl
@[go_sem] theorem tb_placesK_388:a0y Tryz.prog 388=some [(0,2),(2,2),(4,2),(6,2),(8,2),(10,2),(12,2),(14,2)]:=by kernel_rfl
@[go_sem] theorem tb_byteEl_388:a0h Tryz.prog 388=false:=by kernel_rfl
@[go_sem] theorem tb_flatK_388:a5s Tryz.prog 388=some [TypeDesc.int IntKind.u8,TypeDesc.int IntKind.u8,TypeDesc.int IntKind.u8,TypeDesc.int IntKind.u8,TypeDesc.int IntKind.u8,TypeDesc.int IntKind.u8,TypeDesc.int IntKind.u8,TypeDesc.int IntKind.u8,TypeDesc.int IntKind.u8,TypeDesc.int IntKind.u8,TypeDesc.int IntKind.u8,TypeDesc.int IntKind.u8,TypeDesc.int IntKind.u8,TypeDesc.int IntKind.u8,TypeDesc.int IntKind.u8,TypeDesc.int IntKind.u8,TypeDesc.int IntKind.u8,TypeDesc.int IntKind.u8,TypeDesc.int IntKind.u8,TypeDesc.int IntKind.u8,TypeDesc.int IntKind.u8,TypeDesc.int IntKind.u8,TypeDesc.int IntKind.u8,TypeDesc.int IntKind.u8,TypeDesc.int IntKind.u8,TypeDesc.int IntKind.u8,TypeDesc.int IntKind.u8,TypeDesc.int IntKind.u8,TypeDesc.int IntKind.u8,TypeDesc.int IntKind.u8,TypeDesc.int IntKind.u8,TypeDesc.int IntKind.u8]:=by kernel_rfl
@[go_sem] theorem tb_arrLoad_388:a3b Tryz.prog 388=some (16,true,2):=by kernel_rfl
@[go_sem] theorem mixed:Tryz.prog.follows .mixedOrders=true:=by kernel_rfl
end Go.Proofs.YtmjhfccbbfpppaaGreatDoor
