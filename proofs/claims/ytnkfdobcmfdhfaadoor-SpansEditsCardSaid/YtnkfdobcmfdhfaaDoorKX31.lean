import Derived.Test.YtnkfdobcmfdhfaaDoorKX27

