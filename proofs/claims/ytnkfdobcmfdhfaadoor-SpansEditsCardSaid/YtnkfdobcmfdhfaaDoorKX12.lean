import Derived.Test.YtnkfdobcmfdhfaaDoorKX11

